/- Made by this session's driver over the kit's printer: for each Go function a Lean function with the same answers, and a proof that the Go call comes to these answers; no conditions but the ones each theorem names. -/
import Derived.Test.YtondogoepcndiaaDoorPx0
import Derived.Test.YtondogoepcndiaaDoorPx2
import Derived.Test.YtondogoepcndiaaDoorPx4
import Derived.Test.YtondogoepcndiaaDoorPx5
namespace Go.Proofs.YtondogoepcndiaaDoor.P
open Go.RowKit Go.Proofs.YtondogoepcndiaaDoorW.PrintWords Go.Proofs.YtondogoepcndiaaDoorW.PrintLast Go.Proofs.YtondogoepcndiaaDoorW.PrintMore
attribute [local go_sem] max2_int min2_int max_two min_two max_three min_three max_four min_four   -- for this text's walks alone
set_option linter.unusedVariables false
set_option linter.unusedSimpArgs false

attribute [local go_sem high] eqA49
/-! ### insn_Of: function 14 -/
def insn_Of.j0 : Nat → Bool → Int → Int → Int → Int → Int → Int → Int → Int → Bool → Bool → Bool → Bool → Bool → Bool → Bool → Option (Int × Int × Int × Bool × Bool × Int)
 | 0, _, _, _, _, _, _, _, _, _, _, _, _, _, _, _, _ => none
 | k + 1, x38, x115000, x115001, x115002, x115003, x115004, x122000, x122001, x122002, x122003, x122004, x128000, x128001, x128002, x128003, x128004 => if x38 = true then (some (0, 0, 0, false, false, 21)) else (if x128000 = true then (if x128002 = true then (if x128003 = true then (if x128004 = true then (some (x122000, x122001, x122002, x122003, x122004, 0)) else (if x115004 = 0 then (some (x122000, x122001, x122002, x122003, x122004, 0)) else (some (0, 0, 0, false, false, 22)))) else (if x115003 = 0 then (if x128004 = true then (some (x122000, x122001, x122002, x122003, x122004, 0)) else (if x115004 = 0 then (some (x122000, x122001, x122002, x122003, x122004, 0)) else (some (0, 0, 0, false, false, 22)))) else (some (0, 0, 0, false, false, 22)))) else (if x115002 = 0 then (if x128003 = true then (if x128004 = true then (some (x122000, x122001, x122002, x122003, x122004, 0)) else (if x115004 = 0 then (some (x122000, x122001, x122002, x122003, x122004, 0)) else (some (0, 0, 0, false, false, 22)))) else (if x115003 = 0 then (if x128004 = true then (some (x122000, x122001, x122002, x122003, x122004, 0)) else (if x115004 = 0 then (some (x122000, x122001, x122002, x122003, x122004, 0)) else (some (0, 0, 0, false, false, 22)))) else (some (0, 0, 0, false, false, 22)))) else (if x122000 = 11 then (if x128003 = true then (if x128004 = true then (some (x122000, x122001, x122002, x122003, x122004, 0)) else (if x115004 = 0 then (some (x122000, x122001, x122002, x122003, x122004, 0)) else (some (0, 0, 0, false, false, 22)))) else (if x115003 = 0 then (if x128004 = true then (some (x122000, x122001, x122002, x122003, x122004, 0)) else (if x115004 = 0 then (some (x122000, x122001, x122002, x122003, x122004, 0)) else (some (0, 0, 0, false, false, 22)))) else (some (0, 0, 0, false, false, 22)))) else (some (0, 0, 0, false, false, 22))))) else (if x115001 = 0 then (if x128002 = true then (if x128003 = true then (if x128004 = true then (some (x122000, x122001, x122002, x122003, x122004, 0)) else (if x115004 = 0 then (some (x122000, x122001, x122002, x122003, x122004, 0)) else (some (0, 0, 0, false, false, 22)))) else (if x115003 = 0 then (if x128004 = true then (some (x122000, x122001, x122002, x122003, x122004, 0)) else (if x115004 = 0 then (some (x122000, x122001, x122002, x122003, x122004, 0)) else (some (0, 0, 0, false, false, 22)))) else (some (0, 0, 0, false, false, 22)))) else (if x115002 = 0 then (if x128003 = true then (if x128004 = true then (some (x122000, x122001, x122002, x122003, x122004, 0)) else (if x115004 = 0 then (some (x122000, x122001, x122002, x122003, x122004, 0)) else (some (0, 0, 0, false, false, 22)))) else (if x115003 = 0 then (if x128004 = true then (some (x122000, x122001, x122002, x122003, x122004, 0)) else (if x115004 = 0 then (some (x122000, x122001, x122002, x122003, x122004, 0)) else (some (0, 0, 0, false, false, 22)))) else (some (0, 0, 0, false, false, 22)))) else (if x122000 = 11 then (if x128003 = true then (if x128004 = true then (some (x122000, x122001, x122002, x122003, x122004, 0)) else (if x115004 = 0 then (some (x122000, x122001, x122002, x122003, x122004, 0)) else (some (0, 0, 0, false, false, 22)))) else (if x115003 = 0 then (if x128004 = true then (some (x122000, x122001, x122002, x122003, x122004, 0)) else (if x115004 = 0 then (some (x122000, x122001, x122002, x122003, x122004, 0)) else (some (0, 0, 0, false, false, 22)))) else (some (0, 0, 0, false, false, 22)))) else (some (0, 0, 0, false, false, 22))))) else (some (0, 0, 0, false, false, 22))))
def insn_Of.f (k : Nat) (a0_0 : Int) (a0_1 : Int) (a0_2 : Int) (a0_3 : Int) (a0_4 : Int) : Option (Int × Int × Int × Bool × Bool × Int) := (insn_kind.f k a0_0 a0_1 a0_2 a0_3 a0_4).bind fun bt116 => (if (bt116.1 == 0 && (bt116.2.1 == 0 && (bt116.2.2.1 == 0 && (!bt116.2.2.2.1 && (!bt116.2.2.2.2))))) = true then (some (0, 0, 0, false, false, 20)) else ((insn_fields.f k bt116.1 bt116.2.1 bt116.2.2.1 bt116.2.2.2.1 bt116.2.2.2.2).bind fun bt122 => (if bt122.1 = true then (if a0_1 > 10 then (insn_Of.j0 k true a0_0 a0_1 a0_2 a0_3 a0_4 bt116.1 bt116.2.1 bt116.2.2.1 bt116.2.2.2.1 bt116.2.2.2.2 bt122.1 bt122.2.1 bt122.2.2.1 bt122.2.2.2.1 bt122.2.2.2.2) else (if bt122.2.1 = true then (if a0_1 = 10 then (insn_Of.j0 k true a0_0 a0_1 a0_2 a0_3 a0_4 bt116.1 bt116.2.1 bt116.2.2.1 bt116.2.2.2.1 bt116.2.2.2.2 bt122.1 bt122.2.1 bt122.2.2.1 bt122.2.2.2.1 bt122.2.2.2.2) else (if bt122.2.2.1 = true then (insn_Of.j0 k (decide (a0_2 > 10)) a0_0 a0_1 a0_2 a0_3 a0_4 bt116.1 bt116.2.1 bt116.2.2.1 bt116.2.2.2.1 bt116.2.2.2.2 bt122.1 bt122.2.1 bt122.2.2.1 bt122.2.2.2.1 bt122.2.2.2.2) else (insn_Of.j0 k false a0_0 a0_1 a0_2 a0_3 a0_4 bt116.1 bt116.2.1 bt116.2.2.1 bt116.2.2.2.1 bt116.2.2.2.2 bt122.1 bt122.2.1 bt122.2.2.1 bt122.2.2.2.1 bt122.2.2.2.2))) else (if bt122.2.2.1 = true then (insn_Of.j0 k (decide (a0_2 > 10)) a0_0 a0_1 a0_2 a0_3 a0_4 bt116.1 bt116.2.1 bt116.2.2.1 bt116.2.2.2.1 bt116.2.2.2.2 bt122.1 bt122.2.1 bt122.2.2.1 bt122.2.2.2.1 bt122.2.2.2.2) else (insn_Of.j0 k false a0_0 a0_1 a0_2 a0_3 a0_4 bt116.1 bt116.2.1 bt116.2.2.1 bt116.2.2.2.1 bt116.2.2.2.2 bt122.1 bt122.2.1 bt122.2.2.1 bt122.2.2.2.1 bt122.2.2.2.2)))) else (if bt122.2.1 = true then (if a0_1 = 10 then (insn_Of.j0 k true a0_0 a0_1 a0_2 a0_3 a0_4 bt116.1 bt116.2.1 bt116.2.2.1 bt116.2.2.2.1 bt116.2.2.2.2 bt122.1 bt122.2.1 bt122.2.2.1 bt122.2.2.2.1 bt122.2.2.2.2) else (if bt122.2.2.1 = true then (insn_Of.j0 k (decide (a0_2 > 10)) a0_0 a0_1 a0_2 a0_3 a0_4 bt116.1 bt116.2.1 bt116.2.2.1 bt116.2.2.2.1 bt116.2.2.2.2 bt122.1 bt122.2.1 bt122.2.2.1 bt122.2.2.2.1 bt122.2.2.2.2) else (insn_Of.j0 k false a0_0 a0_1 a0_2 a0_3 a0_4 bt116.1 bt116.2.1 bt116.2.2.1 bt116.2.2.2.1 bt116.2.2.2.2 bt122.1 bt122.2.1 bt122.2.2.1 bt122.2.2.2.1 bt122.2.2.2.2))) else (if bt122.2.2.1 = true then (insn_Of.j0 k (decide (a0_2 > 10)) a0_0 a0_1 a0_2 a0_3 a0_4 bt116.1 bt116.2.1 bt116.2.2.1 bt116.2.2.2.1 bt116.2.2.2.2 bt122.1 bt122.2.1 bt122.2.2.1 bt122.2.2.2.1 bt122.2.2.2.2) else (insn_Of.j0 k false a0_0 a0_1 a0_2 a0_3 a0_4 bt116.1 bt116.2.1 bt116.2.2.1 bt116.2.2.2.1 bt116.2.2.2.2 bt122.1 bt122.2.1 bt122.2.2.1 bt122.2.2.2.1 bt122.2.2.2.2))))))
theorem insn_Of.mono_l : ∀ k, (∀ y0 y1 y2 y3 y4 y5 y6 y7 y8 y9 y10 y11 y12 y13 y14 y15, LeO (insn_Of.j0 k y0 y1 y2 y3 y4 y5 y6 y7 y8 y9 y10 y11 y12 y13 y14 y15) (insn_Of.j0 (k + 1) y0 y1 y2 y3 y4 y5 y6 y7 y8 y9 y10 y11 y12 y13 y14 y15))
 | 0 => fun _ _ _ _ _ _ _ _ _ _ _ _ _ _ _ _ r h => by simp [insn_Of.j0] at h
 | k + 1 => by
  have ih0 := insn_Of.mono_l k
  ·intro y0 y1 y2 y3 y4 y5 y6 y7 y8 y9 y10 y11 y12 y13 y14 y15
   unfold insn_Of.j0
   repeat' first
   | (with_reducible exact ih0 _ _ _ _ _ _ _ _ _ _ _ _ _ _ _ _)
   | (with_reducible exact insn_fields.mono _ _ _ _ _ _)
   | (with_reducible exact insn_kind.mono _ _ _ _ _ _)
   | (with_reducible exact LeO.refl _)
   | (with_reducible exact LeO.none _)
   | (with_reducible refine LeO.ite ?_ ?_)
   | (with_reducible refine LeO.bind ?_ (fun _ => ?_))
   | refine LeO.ite ?_ ?_
   | refine LeO.bind ?_ (fun _ => ?_)
theorem insn_Of.mono : ∀ a0 a1 a2 a3 a4 k, LeO (insn_Of.f k a0 a1 a2 a3 a4) (insn_Of.f (k + 1) a0 a1 a2 a3 a4) := by
 intro a0 a1 a2 a3 a4 k
 have ih0 := insn_Of.mono_l k
 unfold insn_Of.f
 repeat' first
   | (with_reducible exact ih0 _ _ _ _ _ _ _ _ _ _ _ _ _ _ _ _)
   | (with_reducible exact insn_fields.mono _ _ _ _ _ _)
   | (with_reducible exact insn_kind.mono _ _ _ _ _ _)
   | (with_reducible exact LeO.refl _)
   | (with_reducible exact LeO.none _)
   | (with_reducible refine LeO.ite ?_ ?_)
   | (with_reducible refine LeO.bind ?_ (fun _ => ?_))
   | refine LeO.ite ?_ ?_
   | refine LeO.bind ?_ (fun _ => ?_)
set_option maxHeartbeats 8000000 in
set_option maxRecDepth 100000 in
theorem insn_Of.calls (k : Nat) (a0_0 : Int) (a0_1 : Int) (a0_2 : Int) (a0_3 : Int) (a0_4 : Int) (r1 : Int) (r2 : Int) (r3 : Int) (r4 : Bool) (r5 : Bool) (r6 : Int) (w : World) (hrG2 : Kd.C (Kd.int .i64) w (some ⟨2, 0, none⟩) gl2.length gl2) (h : insn_Of.f k a0_0 a0_1 a0_2 a0_3 a0_4 = some (r1, r2, r3, r4, r5, r6)) :
  Calls Tryd.prog 14 #[.agg #[.int .u8 a0_0, .int .u8 a0_1, .int .u8 a0_2, .int .i16 a0_3, .int .i32 a0_4]] w fun e w' => e = .returned (.tuple #[.agg #[.int .i64 r1, .int .i64 r2, .int .i64 r3, .bool r4, .bool r5], .int .i64 r6]) ∧ Below w.heap.size w w' := by
 have hu37 := Tryd.underlying37
 have hu49 := Tryd.underlying49
 have hu71 := Tryd.underlying71
 have HRG2 := Aside0.mk hrG2
 clear hrG2
 have HB := Aside0.mk (Below.refl w.heap.size w)
 have H : ((insn_kind.f k a0_0 a0_1 a0_2 a0_3 a0_4).bind fun bt116 => (if (bt116.1 == 0 && (bt116.2.1 == 0 && (bt116.2.2.1 == 0 && (!bt116.2.2.2.1 && (!bt116.2.2.2.2))))) = true then (some (0, 0, 0, false, false, 20)) else ((insn_fields.f k bt116.1 bt116.2.1 bt116.2.2.1 bt116.2.2.2.1 bt116.2.2.2.2).bind fun bt122 => (if bt122.1 = true then (if a0_1 > 10 then (insn_Of.j0 k true a0_0 a0_1 a0_2 a0_3 a0_4 bt116.1 bt116.2.1 bt116.2.2.1 bt116.2.2.2.1 bt116.2.2.2.2 bt122.1 bt122.2.1 bt122.2.2.1 bt122.2.2.2.1 bt122.2.2.2.2) else (if bt122.2.1 = true then (if a0_1 = 10 then (insn_Of.j0 k true a0_0 a0_1 a0_2 a0_3 a0_4 bt116.1 bt116.2.1 bt116.2.2.1 bt116.2.2.2.1 bt116.2.2.2.2 bt122.1 bt122.2.1 bt122.2.2.1 bt122.2.2.2.1 bt122.2.2.2.2) else (if bt122.2.2.1 = true then (insn_Of.j0 k (decide (a0_2 > 10)) a0_0 a0_1 a0_2 a0_3 a0_4 bt116.1 bt116.2.1 bt116.2.2.1 bt116.2.2.2.1 bt116.2.2.2.2 bt122.1 bt122.2.1 bt122.2.2.1 bt122.2.2.2.1 bt122.2.2.2.2) else (insn_Of.j0 k false a0_0 a0_1 a0_2 a0_3 a0_4 bt116.1 bt116.2.1 bt116.2.2.1 bt116.2.2.2.1 bt116.2.2.2.2 bt122.1 bt122.2.1 bt122.2.2.1 bt122.2.2.2.1 bt122.2.2.2.2))) else (if bt122.2.2.1 = true then (insn_Of.j0 k (decide (a0_2 > 10)) a0_0 a0_1 a0_2 a0_3 a0_4 bt116.1 bt116.2.1 bt116.2.2.1 bt116.2.2.2.1 bt116.2.2.2.2 bt122.1 bt122.2.1 bt122.2.2.1 bt122.2.2.2.1 bt122.2.2.2.2) else (insn_Of.j0 k false a0_0 a0_1 a0_2 a0_3 a0_4 bt116.1 bt116.2.1 bt116.2.2.1 bt116.2.2.2.1 bt116.2.2.2.2 bt122.1 bt122.2.1 bt122.2.2.1 bt122.2.2.2.1 bt122.2.2.2.2)))) else (if bt122.2.1 = true then (if a0_1 = 10 then (insn_Of.j0 k true a0_0 a0_1 a0_2 a0_3 a0_4 bt116.1 bt116.2.1 bt116.2.2.1 bt116.2.2.2.1 bt116.2.2.2.2 bt122.1 bt122.2.1 bt122.2.2.1 bt122.2.2.2.1 bt122.2.2.2.2) else (if bt122.2.2.1 = true then (insn_Of.j0 k (decide (a0_2 > 10)) a0_0 a0_1 a0_2 a0_3 a0_4 bt116.1 bt116.2.1 bt116.2.2.1 bt116.2.2.2.1 bt116.2.2.2.2 bt122.1 bt122.2.1 bt122.2.2.1 bt122.2.2.2.1 bt122.2.2.2.2) else (insn_Of.j0 k false a0_0 a0_1 a0_2 a0_3 a0_4 bt116.1 bt116.2.1 bt116.2.2.1 bt116.2.2.2.1 bt116.2.2.2.2 bt122.1 bt122.2.1 bt122.2.2.1 bt122.2.2.2.1 bt122.2.2.2.2))) else (if bt122.2.2.1 = true then (insn_Of.j0 k (decide (a0_2 > 10)) a0_0 a0_1 a0_2 a0_3 a0_4 bt116.1 bt116.2.1 bt116.2.2.1 bt116.2.2.2.1 bt116.2.2.2.2 bt122.1 bt122.2.1 bt122.2.2.1 bt122.2.2.2.1 bt122.2.2.2.2) else (insn_Of.j0 k false a0_0 a0_1 a0_2 a0_3 a0_4 bt116.1 bt116.2.1 bt116.2.2.1 bt116.2.2.2.1 bt116.2.2.2.2 bt122.1 bt122.2.1 bt122.2.2.1 bt122.2.2.2.1 bt122.2.2.2.2))))))) = some (r1, r2, r3, r4, r5, r6) := h
 clear h
 obtain ⟨⟨t116, t117, t118, t119, t120⟩, A2, H⟩ := bs_ H; try dsimp only at H
 by_cases c3 : (t116 == 0 && (t117 == 0 && (t118 == 0 && (!t119 && (!t120))))) = true
 ·rw [if_pos c3] at H
  have c3b0 : (t116 == 0 && (t117 == 0 && (t118 == 0 && (!t119 && (!t120))))) = true := c3
  (try (have c3b1 : decide (t116 = 0 && (t117 == 0 && (t118 == 0 && (!t119 && (!t120))))) = true := by simpa using c3))
  (try (have c3b2 : (t116 == 0 && (t117 == 0 && (t118 == 0 && (!t119 && (!t120))))) = true := by simpa using c3))
  clear c3
  obtain ⟨rfl, rfl, rfl, rfl, rfl, rfl⟩ := pi6 H
  go_enter Tryd.func14, Tryd.ntmps14
  go_wp2_with (first | ((with_reducible refine gate_dst (N := 1) rfl ?_); refine sh_box 1 #[.int .u8 a0_0, .int .u8 a0_1, .int .u8 a0_2, .int .i16 a0_3, .int .i32 a0_4] 37 ?_; intro gb114 hg w4 hbox hb; have GE114 := sh_z (w := w) hg; replace HB := sh_b (w := w) hb; have BK114 := Aside0.mk (hbox); clear hb hbox hg) | ((with_reducible refine gate_dst (N := 2) rfl ?_); refine sh_box 2 #[.int .i64 0, .int .i64 0, .int .i64 0, .bool false, .bool false] 49 ?_; intro gb115 hg w5 hbox hb; have GE115 := sh_z (w := w) hg; have NB114_115 := sh_n BK114 hg; have NB115_114 := sh_s NB114_115; replace BK114 := sh_k BK114 hb; replace HB := sh_b (w := w) hb; have BK115 := Aside0.mk (hbox); clear hb hbox hg; obtain ⟨hnb6, hnc6⟩ := nb_ NB114_115; have hcz7 := blk_all5 BK114.out) | ((with_reducible refine gate_callee (f := 25) rfl ?_); refine sh_call (some 7) Tryd.func25 #[.agg #[.int .u8 a0_0, .int .u8 a0_1, .int .u8 a0_2, .int .i16 a0_3, .int .i32 a0_4]] ?_; (with_reducible refine (insn_kind.calls k a0_0 a0_1 a0_2 a0_3 a0_4 t116 t117 t118 t119 t120 _ ?side1 A2.out).mono ?_); (case side1 => repeat (first | exact (Kd.C_below HRG2.out HB.out) | (with_reducible refine Kd.C_alloc ?_ _) | (with_reducible refine Kd.C_drewN ?_ _) | (with_reducible refine Kd.C_drew ?_))); rintro e w8 ⟨rfl, hb⟩; refine ⟨_, rfl, ?_⟩; replace BK114 := sh_k BK114 hb; replace BK115 := sh_k BK115 hb; replace HB := sh_b (w := w) hb; (try clear hb); (try clear hb2); (try clear hk); (try clear hi)) | ((with_reducible refine gate_dst (N := 4) rfl ?_); refine sh_box 4 #[.int .i64 0, .int .i64 0, .int .i64 0, .bool false, .bool false] 49 ?_; intro gb121 hg w9 hbox hb; have GE121 := sh_z (w := w) hg; have NB114_121 := sh_n BK114 hg; have NB115_121 := sh_n BK115 hg; have NB121_114 := sh_s NB114_121; have NB121_115 := sh_s NB115_121; replace BK114 := sh_k BK114 hb; replace BK115 := sh_k BK115 hb; replace HB := sh_b (w := w) hb; have BK121 := Aside0.mk (hbox); clear hb hbox hg; obtain ⟨hnb10, hnc10⟩ := nb_ NB121_114; obtain ⟨hnb11, hnc11⟩ := nb_ NB121_115; have hcz12 := blk_all5 BK121.out; have hcz13 := blk_all5 BK115.out))
  refine bodyPost_ret (results_ct rfl _ _ gb115 49 #[.int .i64 0, .int .i64 0, .int .i64 0, .bool false, .bool false] (0, 0) _ rfl bk_now Tryd.underlying49 rfl (by kernel_rfl)) rfl ?_
  exact ⟨ret_now, b_now⟩
 ·rw [if_neg c3] at H
  have c3b0 : (t116 == 0 && (t117 == 0 && (t118 == 0 && (!t119 && (!t120))))) = false := by simpa using c3
  (try (have c3b1 : decide (t116 = 0 && (t117 == 0 && (t118 == 0 && (!t119 && (!t120))))) = false := by simpa using c3))
  (try (have c3b2 : (t116 == 0 && (t117 == 0 && (t118 == 0 && (!t119 && (!t120))))) = false := by simpa using c3))
  (try (have c3b3 : ¬ (t116 = 0 && (t117 == 0 && (t118 == 0 && (!t119 && (!t120))))) := by simpa using c3))
  clear c3
  obtain ⟨⟨t122, t123, t124, t125, t126⟩, A14, H⟩ := bs_ H; try dsimp only at H
  have HC15 := Aside0.mk H
  clear H
  go_enter Tryd.func14, Tryd.ntmps14
  go_upto_region 5 with (first | ((with_reducible refine gate_dst (N := 1) rfl ?_); refine sh_box 1 #[.int .u8 a0_0, .int .u8 a0_1, .int .u8 a0_2, .int .i16 a0_3, .int .i32 a0_4] 37 ?_; intro gb114 hg w16 hbox hb; have GE114 := sh_z (w := w) hg; replace HB := sh_b (w := w) hb; have BK114 := Aside0.mk (hbox); clear hb hbox hg) | ((with_reducible refine gate_dst (N := 2) rfl ?_); refine sh_box 2 #[.int .i64 0, .int .i64 0, .int .i64 0, .bool false, .bool false] 49 ?_; intro gb115 hg w17 hbox hb; have GE115 := sh_z (w := w) hg; have NB114_115 := sh_n BK114 hg; have NB115_114 := sh_s NB114_115; replace BK114 := sh_k BK114 hb; replace HB := sh_b (w := w) hb; have BK115 := Aside0.mk (hbox); clear hb hbox hg; obtain ⟨hnb18, hnc18⟩ := nb_ NB114_115; have hcz19 := blk_all5 BK114.out) | ((with_reducible refine gate_callee (f := 25) rfl ?_); refine sh_call (some 7) Tryd.func25 #[.agg #[.int .u8 a0_0, .int .u8 a0_1, .int .u8 a0_2, .int .i16 a0_3, .int .i32 a0_4]] ?_; (with_reducible refine (insn_kind.calls k a0_0 a0_1 a0_2 a0_3 a0_4 t116 t117 t118 t119 t120 _ ?side1 A2.out).mono ?_); (case side1 => repeat (first | exact (Kd.C_below HRG2.out HB.out) | (with_reducible refine Kd.C_alloc ?_ _) | (with_reducible refine Kd.C_drewN ?_ _) | (with_reducible refine Kd.C_drew ?_))); rintro e w20 ⟨rfl, hb⟩; refine ⟨_, rfl, ?_⟩; replace BK114 := sh_k BK114 hb; replace BK115 := sh_k BK115 hb; replace HB := sh_b (w := w) hb; (try clear hb); (try clear hb2); (try clear hk); (try clear hi)) | ((with_reducible refine gate_dst (N := 4) rfl ?_); refine sh_box 4 #[.int .i64 0, .int .i64 0, .int .i64 0, .bool false, .bool false] 49 ?_; intro gb121 hg w21 hbox hb; have GE121 := sh_z (w := w) hg; have NB114_121 := sh_n BK114 hg; have NB115_121 := sh_n BK115 hg; have NB121_114 := sh_s NB114_121; have NB121_115 := sh_s NB115_121; replace BK114 := sh_k BK114 hb; replace BK115 := sh_k BK115 hb; replace HB := sh_b (w := w) hb; have BK121 := Aside0.mk (hbox); clear hb hbox hg; obtain ⟨hnb22, hnc22⟩ := nb_ NB121_114; obtain ⟨hnb23, hnc23⟩ := nb_ NB121_115; have hcz24 := blk_all5 BK121.out) | ((with_reducible refine gate_callee (f := 26) rfl ?_); refine sh_call (some 13) Tryd.func26 #[.agg #[.int .i64 t116, .int .i64 t117, .int .i64 t118, .bool t119, .bool t120]] ?_; (with_reducible refine (insn_fields.calls k t116 t117 t118 t119 t120 t122 t123 t124 t125 t126 _ A14.out).mono ?_); rintro e w25 ⟨rfl, hb⟩; refine ⟨_, rfl, ?_⟩; replace BK114 := sh_kp (g := gb114) (t := 37) #[.int .u8 a0_0, .int .u8 a0_1, .int .u8 a0_2, .int .i16 a0_3, .int .i32 a0_4] hb; replace BK115 := sh_kp (g := gb115) (t := 49) #[.int .i64 0, .int .i64 0, .int .i64 0, .bool false, .bool false] hb; replace BK121 := sh_kp (g := gb121) (t := 49) #[.int .i64 t116, .int .i64 t117, .int .i64 t118, .bool t119, .bool t120] hb; replace HB := sh_b (w := w) hb; (try clear hb); (try clear hb2); (try clear hk); (try clear hi)) | ((with_reducible refine gate_dst (N := 5) rfl ?_); refine sh_box 5 #[.bool false, .bool false, .bool false, .bool false, .bool false] 71 ?_; intro gb127 hg w26 hbox hb; have GE127 := sh_z (w := w) hg; have NB114_127 := sh_n BK114 hg; have NB115_127 := sh_n BK115 hg; have NB121_127 := sh_n BK121 hg; have NB127_114 := sh_s NB114_127; have NB127_115 := sh_s NB115_127; have NB127_121 := sh_s NB121_127; replace BK114 := sh_k BK114 hb; replace BK115 := sh_k BK115 hb; replace BK121 := sh_k BK121 hb; replace HB := sh_b (w := w) hb; have BK127 := Aside0.mk (hbox); clear hb hbox hg; obtain ⟨hnb27, hnc27⟩ := nb_ NB127_114; obtain ⟨hnb28, hnc28⟩ := nb_ NB127_115; obtain ⟨hnb29, hnc29⟩ := nb_ NB127_121; have hcz30 := blk_all5 BK127.out))
  (try simp only [Act.put, List.setIfInBounds_toArray, List.set_cons_zero, List.set_cons_succ])
  go_cut [38] (fun v38 wc => ∃ (kq : Nat) (x38_14 : Bool), v38 = .bool x38_14 ∧ Aside0 (insn_Of.j0 kq x38_14 a0_0 a0_1 a0_2 a0_3 a0_4 t116 t117 t118 t119 t120 t122 t123 t124 t125 t126 = some (r1, r2, r3, r4, r5, r6)) ∧ Aside0 (kq ≤ k) ∧ Aside0 (wc.heap[gb114]? = some (.cells #[.int .u8 a0_0, .int .u8 a0_1, .int .u8 a0_2, .int .i16 a0_3, .int .i32 a0_4] 37 (0, 0))) ∧ Aside0 (wc.heap[gb115]? = some (.cells #[.int .i64 0, .int .i64 0, .int .i64 0, .bool false, .bool false] 49 (0, 0))) ∧ Aside0 (wc.heap[gb121]? = some (.cells #[.int .i64 t116, .int .i64 t117, .int .i64 t118, .bool t119, .bool t120] 49 (0, 0))) ∧ Aside0 (wc.heap[gb127]? = some (.cells #[.bool t122, .bool t123, .bool t124, .bool t125, .bool t126] 71 (0, 0))) ∧ Aside0 (Below w.heap.size w wc))
  case first =>
   have H := HC15.out
   clear HC15
   by_cases c31 : t122 = true
   ·subst c31
    replace H := sh_t H
    by_cases c32 : a0_1 > 10
    ·rw [if_pos c32] at H
     have c32b0 : decide (10 < a0_1) = true := decide_eq_true c32
     clear c32
     (first | rw [c32b0] | (simp only [i64_w, i32_w]; rw [c32b0]) | skip)
     have H' := Aside0.mk H
     clear H
     obtain ⟨hnb33, hnc33⟩ := nb_ NB127_114
     obtain ⟨hnb34, hnc34⟩ := nb_ NB127_115
     obtain ⟨hnb35, hnc35⟩ := nb_ NB127_121
     have hcz36 := blk_all5 BK127.out
     obtain ⟨hnb37, hnc37⟩ := nb_ NB114_115
     obtain ⟨hnb38, hnc38⟩ := nb_ NB114_121
     have hcz39 := blk_all5 BK114.out
     go_wp2
     go_meet
     case rel => exact ⟨_, (true), eq_now, H', ⟨by first | omega | exact Nat.le_refl _⟩, ⟨bk_now⟩, ⟨bk_now⟩, ⟨bk_now⟩, ⟨bk_now⟩, ⟨b_now⟩⟩
    ·rw [if_neg c32] at H
     have c32b0 : decide (10 < a0_1) = false := decide_eq_false c32
     clear c32
     (first | rw [c32b0] | (simp only [i64_w, i32_w]; rw [c32b0]) | skip)
     by_cases c40 : t123 = true
     ·subst c40
      replace H := sh_t H
      by_cases c41 : a0_1 = 10
      ·rw [if_pos c41] at H
       obtain ⟨c41b0, c41b1⟩ := eqT c41
       clear c41
       have H' := Aside0.mk H
       clear H
       obtain ⟨hnb42, hnc42⟩ := nb_ NB127_114
       obtain ⟨hnb43, hnc43⟩ := nb_ NB127_115
       obtain ⟨hnb44, hnc44⟩ := nb_ NB127_121
       have hcz45 := blk_all5 BK127.out
       obtain ⟨hnb46, hnc46⟩ := nb_ NB114_115
       obtain ⟨hnb47, hnc47⟩ := nb_ NB114_121
       have hcz48 := blk_all5 BK114.out
       go_wp2
       go_meet
       case rel => exact ⟨_, (true), eq_now, H', ⟨by first | omega | exact Nat.le_refl _⟩, ⟨bk_now⟩, ⟨bk_now⟩, ⟨bk_now⟩, ⟨bk_now⟩, ⟨b_now⟩⟩
      ·rw [if_neg c41] at H
       obtain ⟨c41b0, c41b1⟩ := eqF c41
       by_cases c49 : t124 = true
       ·subst c49
        replace H := sh_t H
        have H' := Aside0.mk H
        clear H
        obtain ⟨hnb50, hnc50⟩ := nb_ NB127_114
        obtain ⟨hnb51, hnc51⟩ := nb_ NB127_115
        obtain ⟨hnb52, hnc52⟩ := nb_ NB127_121
        have hcz53 := blk_all5 BK127.out
        obtain ⟨hnb54, hnc54⟩ := nb_ NB114_115
        obtain ⟨hnb55, hnc55⟩ := nb_ NB114_121
        have hcz56 := blk_all5 BK114.out
        go_wp2
        go_meet
        case rel => exact ⟨_, (decide (a0_2 > 10)), eq_now, H', ⟨by first | omega | exact Nat.le_refl _⟩, ⟨bk_now⟩, ⟨bk_now⟩, ⟨bk_now⟩, ⟨bk_now⟩, ⟨b_now⟩⟩
       ·replace c49 := Bool.eq_false_iff.mpr c49
        subst c49
        replace H := sh_f H
        have H' := Aside0.mk H
        clear H
        obtain ⟨hnb57, hnc57⟩ := nb_ NB127_114
        obtain ⟨hnb58, hnc58⟩ := nb_ NB127_115
        obtain ⟨hnb59, hnc59⟩ := nb_ NB127_121
        have hcz60 := blk_all5 BK127.out
        obtain ⟨hnb61, hnc61⟩ := nb_ NB114_115
        obtain ⟨hnb62, hnc62⟩ := nb_ NB114_121
        have hcz63 := blk_all5 BK114.out
        go_wp2
        go_meet
        case rel => exact ⟨_, (false), eq_now, H', ⟨by first | omega | exact Nat.le_refl _⟩, ⟨bk_now⟩, ⟨bk_now⟩, ⟨bk_now⟩, ⟨bk_now⟩, ⟨b_now⟩⟩
     ·replace c40 := Bool.eq_false_iff.mpr c40
      subst c40
      replace H := sh_f H
      by_cases c64 : t124 = true
      ·subst c64
       replace H := sh_t H
       have H' := Aside0.mk H
       clear H
       obtain ⟨hnb65, hnc65⟩ := nb_ NB127_114
       obtain ⟨hnb66, hnc66⟩ := nb_ NB127_115
       obtain ⟨hnb67, hnc67⟩ := nb_ NB127_121
       have hcz68 := blk_all5 BK127.out
       obtain ⟨hnb69, hnc69⟩ := nb_ NB114_115
       obtain ⟨hnb70, hnc70⟩ := nb_ NB114_121
       have hcz71 := blk_all5 BK114.out
       go_wp2
       go_meet
       case rel => exact ⟨_, (decide (a0_2 > 10)), eq_now, H', ⟨by first | omega | exact Nat.le_refl _⟩, ⟨bk_now⟩, ⟨bk_now⟩, ⟨bk_now⟩, ⟨bk_now⟩, ⟨b_now⟩⟩
      ·replace c64 := Bool.eq_false_iff.mpr c64
       subst c64
       replace H := sh_f H
       have H' := Aside0.mk H
       clear H
       obtain ⟨hnb72, hnc72⟩ := nb_ NB127_114
       obtain ⟨hnb73, hnc73⟩ := nb_ NB127_115
       obtain ⟨hnb74, hnc74⟩ := nb_ NB127_121
       have hcz75 := blk_all5 BK127.out
       obtain ⟨hnb76, hnc76⟩ := nb_ NB114_115
       obtain ⟨hnb77, hnc77⟩ := nb_ NB114_121
       have hcz78 := blk_all5 BK114.out
       go_wp2
       go_meet
       case rel => exact ⟨_, (false), eq_now, H', ⟨by first | omega | exact Nat.le_refl _⟩, ⟨bk_now⟩, ⟨bk_now⟩, ⟨bk_now⟩, ⟨bk_now⟩, ⟨b_now⟩⟩
   ·replace c31 := Bool.eq_false_iff.mpr c31
    subst c31
    replace H := sh_f H
    by_cases c79 : t123 = true
    ·subst c79
     replace H := sh_t H
     by_cases c80 : a0_1 = 10
     ·rw [if_pos c80] at H
      obtain ⟨c80b0, c80b1⟩ := eqT c80
      clear c80
      have H' := Aside0.mk H
      clear H
      obtain ⟨hnb81, hnc81⟩ := nb_ NB127_114
      obtain ⟨hnb82, hnc82⟩ := nb_ NB127_115
      obtain ⟨hnb83, hnc83⟩ := nb_ NB127_121
      have hcz84 := blk_all5 BK127.out
      obtain ⟨hnb85, hnc85⟩ := nb_ NB114_115
      obtain ⟨hnb86, hnc86⟩ := nb_ NB114_121
      have hcz87 := blk_all5 BK114.out
      go_wp2
      go_meet
      case rel => exact ⟨_, (true), eq_now, H', ⟨by first | omega | exact Nat.le_refl _⟩, ⟨bk_now⟩, ⟨bk_now⟩, ⟨bk_now⟩, ⟨bk_now⟩, ⟨b_now⟩⟩
     ·rw [if_neg c80] at H
      obtain ⟨c80b0, c80b1⟩ := eqF c80
      by_cases c88 : t124 = true
      ·subst c88
       replace H := sh_t H
       have H' := Aside0.mk H
       clear H
       obtain ⟨hnb89, hnc89⟩ := nb_ NB127_114
       obtain ⟨hnb90, hnc90⟩ := nb_ NB127_115
       obtain ⟨hnb91, hnc91⟩ := nb_ NB127_121
       have hcz92 := blk_all5 BK127.out
       obtain ⟨hnb93, hnc93⟩ := nb_ NB114_115
       obtain ⟨hnb94, hnc94⟩ := nb_ NB114_121
       have hcz95 := blk_all5 BK114.out
       go_wp2
       go_meet
       case rel => exact ⟨_, (decide (a0_2 > 10)), eq_now, H', ⟨by first | omega | exact Nat.le_refl _⟩, ⟨bk_now⟩, ⟨bk_now⟩, ⟨bk_now⟩, ⟨bk_now⟩, ⟨b_now⟩⟩
      ·replace c88 := Bool.eq_false_iff.mpr c88
       subst c88
       replace H := sh_f H
       have H' := Aside0.mk H
       clear H
       obtain ⟨hnb96, hnc96⟩ := nb_ NB127_114
       obtain ⟨hnb97, hnc97⟩ := nb_ NB127_115
       obtain ⟨hnb98, hnc98⟩ := nb_ NB127_121
       have hcz99 := blk_all5 BK127.out
       obtain ⟨hnb100, hnc100⟩ := nb_ NB114_115
       obtain ⟨hnb101, hnc101⟩ := nb_ NB114_121
       have hcz102 := blk_all5 BK114.out
       go_wp2
       go_meet
       case rel => exact ⟨_, (false), eq_now, H', ⟨by first | omega | exact Nat.le_refl _⟩, ⟨bk_now⟩, ⟨bk_now⟩, ⟨bk_now⟩, ⟨bk_now⟩, ⟨b_now⟩⟩
    ·replace c79 := Bool.eq_false_iff.mpr c79
     subst c79
     replace H := sh_f H
     by_cases c103 : t124 = true
     ·subst c103
      replace H := sh_t H
      have H' := Aside0.mk H
      clear H
      obtain ⟨hnb104, hnc104⟩ := nb_ NB127_114
      obtain ⟨hnb105, hnc105⟩ := nb_ NB127_115
      obtain ⟨hnb106, hnc106⟩ := nb_ NB127_121
      have hcz107 := blk_all5 BK127.out
      obtain ⟨hnb108, hnc108⟩ := nb_ NB114_115
      obtain ⟨hnb109, hnc109⟩ := nb_ NB114_121
      have hcz110 := blk_all5 BK114.out
      go_wp2
      go_meet
      case rel => exact ⟨_, (decide (a0_2 > 10)), eq_now, H', ⟨by first | omega | exact Nat.le_refl _⟩, ⟨bk_now⟩, ⟨bk_now⟩, ⟨bk_now⟩, ⟨bk_now⟩, ⟨b_now⟩⟩
     ·replace c103 := Bool.eq_false_iff.mpr c103
      subst c103
      replace H := sh_f H
      have H' := Aside0.mk H
      clear H
      obtain ⟨hnb111, hnc111⟩ := nb_ NB127_114
      obtain ⟨hnb112, hnc112⟩ := nb_ NB127_115
      obtain ⟨hnb113, hnc113⟩ := nb_ NB127_121
      have hcz114 := blk_all5 BK127.out
      go_wp2
      go_meet
      case rel => exact ⟨_, (false), eq_now, H', ⟨by first | omega | exact Nat.le_refl _⟩, ⟨bk_now⟩, ⟨bk_now⟩, ⟨bk_now⟩, ⟨bk_now⟩, ⟨b_now⟩⟩
  case rest =>
   clear HC15
   clear c3b0 c3b1 c3b2 hcz19 hcz24 hcz30
   obtain ⟨kq, x38_14, rfl, HA, HJ14, BK114, BK115, BK121, BK127, HB⟩ := hcut
   cases kq with
   | zero => exact absurd HA.out (by simp [insn_Of.j0])
   | succ kj14 =>
    have H := HA.out
    clear HA
    simp only [insn_Of.j0] at H
    by_cases c115 : x38_14 = true
    ·subst c115
     replace H := sh_t H
     obtain ⟨rfl, rfl, rfl, rfl, rfl, rfl⟩ := pi6 H
     obtain ⟨hnb116, hnc116⟩ := nb_ NB115_114
     obtain ⟨hnb117, hnc117⟩ := nb_ NB115_121
     obtain ⟨hnb118, hnc118⟩ := nb_ NB115_127
     have hcz119 := blk_all5 BK115.out
     go_wp2
     refine bodyPost_ret (results_ct rfl _ _ gb115 49 #[.int .i64 0, .int .i64 0, .int .i64 0, .bool false, .bool false] (0, 0) _ rfl bk_now Tryd.underlying49 rfl (by kernel_rfl)) rfl ?_
     exact ⟨ret_now, b_now⟩
    ·replace c115 := Bool.eq_false_iff.mpr c115
     subst c115
     replace H := sh_f H
     by_cases c120 : t122 = true
     ·subst c120
      replace H := sh_t H
      by_cases c121 : t124 = true
      ·subst c121
       replace H := sh_t H
       by_cases c122 : t125 = true
       ·subst c122
        replace H := sh_t H
        by_cases c123 : t126 = true
        ·subst c123
         replace H := sh_t H
         obtain ⟨rfl, rfl, rfl, rfl, rfl, rfl⟩ := pi6 H
         obtain ⟨hnb124, hnc124⟩ := nb_ NB127_114
         obtain ⟨hnb125, hnc125⟩ := nb_ NB127_115
         obtain ⟨hnb126, hnc126⟩ := nb_ NB127_121
         have hcz127 := blk_all5 BK127.out
         obtain ⟨hnb128, hnc128⟩ := nb_ NB121_114
         obtain ⟨hnb129, hnc129⟩ := nb_ NB121_115
         have hcz130 := blk_all5 BK121.out
         obtain ⟨hnb131, hnc131⟩ := nb_ NB115_114
         have hcz132 := blk_all5 BK115.out
         go_wp2
         refine bodyPost_ret (results_ct rfl _ _ gb115 49 #[.int .i64 t116, .int .i64 t117, .int .i64 t118, .bool t119, .bool t120] (0, 0) _ rfl bk_now Tryd.underlying49 rfl (by kernel_rfl)) rfl ?_
         exact ⟨ret_now, b_now⟩
        ·replace c123 := Bool.eq_false_iff.mpr c123
         subst c123
         replace H := sh_f H
         by_cases c133 : a0_4 = 0
         ·rw [if_pos c133] at H
          obtain ⟨c133b0, c133b1⟩ := eqT c133
          clear c133
          obtain ⟨rfl, rfl, rfl, rfl, rfl, rfl⟩ := pi6 H
          obtain ⟨hnb134, hnc134⟩ := nb_ NB127_114
          obtain ⟨hnb135, hnc135⟩ := nb_ NB127_115
          obtain ⟨hnb136, hnc136⟩ := nb_ NB127_121
          have hcz137 := blk_all5 BK127.out
          obtain ⟨hnb138, hnc138⟩ := nb_ NB114_115
          obtain ⟨hnb139, hnc139⟩ := nb_ NB114_121
          have hcz140 := blk_all5 BK114.out
          obtain ⟨hnb141, hnc141⟩ := nb_ NB121_115
          have hcz142 := blk_all5 BK121.out
          have hcz143 := blk_all5 BK115.out
          go_wp2
          refine bodyPost_ret (results_ct rfl _ _ gb115 49 #[.int .i64 t116, .int .i64 t117, .int .i64 t118, .bool t119, .bool t120] (0, 0) _ rfl bk_now Tryd.underlying49 rfl (by kernel_rfl)) rfl ?_
          exact ⟨ret_now, b_now⟩
         ·rw [if_neg c133] at H
          obtain ⟨c133b0, c133b1⟩ := eqF c133
          obtain ⟨rfl, rfl, rfl, rfl, rfl, rfl⟩ := pi6 H
          obtain ⟨hnb144, hnc144⟩ := nb_ NB127_114
          obtain ⟨hnb145, hnc145⟩ := nb_ NB127_115
          obtain ⟨hnb146, hnc146⟩ := nb_ NB127_121
          have hcz147 := blk_all5 BK127.out
          obtain ⟨hnb148, hnc148⟩ := nb_ NB114_115
          obtain ⟨hnb149, hnc149⟩ := nb_ NB114_121
          have hcz150 := blk_all5 BK114.out
          obtain ⟨hnb151, hnc151⟩ := nb_ NB115_121
          have hcz152 := blk_all5 BK115.out
          go_wp2
          refine bodyPost_ret (results_ct rfl _ _ gb115 49 #[.int .i64 0, .int .i64 0, .int .i64 0, .bool false, .bool false] (0, 0) _ rfl bk_now Tryd.underlying49 rfl (by kernel_rfl)) rfl ?_
          exact ⟨ret_now, b_now⟩
       ·replace c122 := Bool.eq_false_iff.mpr c122
        subst c122
        replace H := sh_f H
        by_cases c153 : a0_3 = 0
        ·rw [if_pos c153] at H
         obtain ⟨c153b0, c153b1⟩ := eqT c153
         clear c153
         by_cases c154 : t126 = true
         ·subst c154
          replace H := sh_t H
          obtain ⟨rfl, rfl, rfl, rfl, rfl, rfl⟩ := pi6 H
          obtain ⟨hnb155, hnc155⟩ := nb_ NB127_114
          obtain ⟨hnb156, hnc156⟩ := nb_ NB127_115
          obtain ⟨hnb157, hnc157⟩ := nb_ NB127_121
          have hcz158 := blk_all5 BK127.out
          obtain ⟨hnb159, hnc159⟩ := nb_ NB114_115
          obtain ⟨hnb160, hnc160⟩ := nb_ NB114_121
          have hcz161 := blk_all5 BK114.out
          obtain ⟨hnb162, hnc162⟩ := nb_ NB121_115
          have hcz163 := blk_all5 BK121.out
          have hcz164 := blk_all5 BK115.out
          go_wp2
          refine bodyPost_ret (results_ct rfl _ _ gb115 49 #[.int .i64 t116, .int .i64 t117, .int .i64 t118, .bool t119, .bool t120] (0, 0) _ rfl bk_now Tryd.underlying49 rfl (by kernel_rfl)) rfl ?_
          exact ⟨ret_now, b_now⟩
         ·replace c154 := Bool.eq_false_iff.mpr c154
          subst c154
          replace H := sh_f H
          by_cases c165 : a0_4 = 0
          ·rw [if_pos c165] at H
           obtain ⟨c165b0, c165b1⟩ := eqT c165
           clear c165
           obtain ⟨rfl, rfl, rfl, rfl, rfl, rfl⟩ := pi6 H
           obtain ⟨hnb166, hnc166⟩ := nb_ NB127_114
           obtain ⟨hnb167, hnc167⟩ := nb_ NB127_115
           obtain ⟨hnb168, hnc168⟩ := nb_ NB127_121
           have hcz169 := blk_all5 BK127.out
           obtain ⟨hnb170, hnc170⟩ := nb_ NB114_115
           obtain ⟨hnb171, hnc171⟩ := nb_ NB114_121
           have hcz172 := blk_all5 BK114.out
           obtain ⟨hnb173, hnc173⟩ := nb_ NB121_115
           have hcz174 := blk_all5 BK121.out
           have hcz175 := blk_all5 BK115.out
           go_wp2
           refine bodyPost_ret (results_ct rfl _ _ gb115 49 #[.int .i64 t116, .int .i64 t117, .int .i64 t118, .bool t119, .bool t120] (0, 0) _ rfl bk_now Tryd.underlying49 rfl (by kernel_rfl)) rfl ?_
           exact ⟨ret_now, b_now⟩
          ·rw [if_neg c165] at H
           obtain ⟨c165b0, c165b1⟩ := eqF c165
           obtain ⟨rfl, rfl, rfl, rfl, rfl, rfl⟩ := pi6 H
           obtain ⟨hnb176, hnc176⟩ := nb_ NB127_114
           obtain ⟨hnb177, hnc177⟩ := nb_ NB127_115
           obtain ⟨hnb178, hnc178⟩ := nb_ NB127_121
           have hcz179 := blk_all5 BK127.out
           obtain ⟨hnb180, hnc180⟩ := nb_ NB114_115
           obtain ⟨hnb181, hnc181⟩ := nb_ NB114_121
           have hcz182 := blk_all5 BK114.out
           obtain ⟨hnb183, hnc183⟩ := nb_ NB115_121
           have hcz184 := blk_all5 BK115.out
           go_wp2
           refine bodyPost_ret (results_ct rfl _ _ gb115 49 #[.int .i64 0, .int .i64 0, .int .i64 0, .bool false, .bool false] (0, 0) _ rfl bk_now Tryd.underlying49 rfl (by kernel_rfl)) rfl ?_
           exact ⟨ret_now, b_now⟩
        ·rw [if_neg c153] at H
         obtain ⟨c153b0, c153b1⟩ := eqF c153
         obtain ⟨rfl, rfl, rfl, rfl, rfl, rfl⟩ := pi6 H
         obtain ⟨hnb185, hnc185⟩ := nb_ NB127_114
         obtain ⟨hnb186, hnc186⟩ := nb_ NB127_115
         obtain ⟨hnb187, hnc187⟩ := nb_ NB127_121
         have hcz188 := blk_all5 BK127.out
         obtain ⟨hnb189, hnc189⟩ := nb_ NB114_115
         obtain ⟨hnb190, hnc190⟩ := nb_ NB114_121
         have hcz191 := blk_all5 BK114.out
         obtain ⟨hnb192, hnc192⟩ := nb_ NB115_121
         have hcz193 := blk_all5 BK115.out
         go_wp2
         refine bodyPost_ret (results_ct rfl _ _ gb115 49 #[.int .i64 0, .int .i64 0, .int .i64 0, .bool false, .bool false] (0, 0) _ rfl bk_now Tryd.underlying49 rfl (by kernel_rfl)) rfl ?_
         exact ⟨ret_now, b_now⟩
      ·replace c121 := Bool.eq_false_iff.mpr c121
       subst c121
       replace H := sh_f H
       by_cases c194 : a0_2 = 0
       ·rw [if_pos c194] at H
        obtain ⟨c194b0, c194b1⟩ := eqT c194
        clear c194
        by_cases c195 : t125 = true
        ·subst c195
         replace H := sh_t H
         by_cases c196 : t126 = true
         ·subst c196
          replace H := sh_t H
          obtain ⟨rfl, rfl, rfl, rfl, rfl, rfl⟩ := pi6 H
          obtain ⟨hnb197, hnc197⟩ := nb_ NB127_114
          obtain ⟨hnb198, hnc198⟩ := nb_ NB127_115
          obtain ⟨hnb199, hnc199⟩ := nb_ NB127_121
          have hcz200 := blk_all5 BK127.out
          obtain ⟨hnb201, hnc201⟩ := nb_ NB114_115
          obtain ⟨hnb202, hnc202⟩ := nb_ NB114_121
          have hcz203 := blk_all5 BK114.out
          obtain ⟨hnb204, hnc204⟩ := nb_ NB121_115
          have hcz205 := blk_all5 BK121.out
          have hcz206 := blk_all5 BK115.out
          go_wp2
          refine bodyPost_ret (results_ct rfl _ _ gb115 49 #[.int .i64 t116, .int .i64 t117, .int .i64 t118, .bool t119, .bool t120] (0, 0) _ rfl bk_now Tryd.underlying49 rfl (by kernel_rfl)) rfl ?_
          exact ⟨ret_now, b_now⟩
         ·replace c196 := Bool.eq_false_iff.mpr c196
          subst c196
          replace H := sh_f H
          by_cases c207 : a0_4 = 0
          ·rw [if_pos c207] at H
           obtain ⟨c207b0, c207b1⟩ := eqT c207
           clear c207
           obtain ⟨rfl, rfl, rfl, rfl, rfl, rfl⟩ := pi6 H
           obtain ⟨hnb208, hnc208⟩ := nb_ NB127_114
           obtain ⟨hnb209, hnc209⟩ := nb_ NB127_115
           obtain ⟨hnb210, hnc210⟩ := nb_ NB127_121
           have hcz211 := blk_all5 BK127.out
           obtain ⟨hnb212, hnc212⟩ := nb_ NB114_115
           obtain ⟨hnb213, hnc213⟩ := nb_ NB114_121
           have hcz214 := blk_all5 BK114.out
           obtain ⟨hnb215, hnc215⟩ := nb_ NB121_115
           have hcz216 := blk_all5 BK121.out
           have hcz217 := blk_all5 BK115.out
           go_wp2
           refine bodyPost_ret (results_ct rfl _ _ gb115 49 #[.int .i64 t116, .int .i64 t117, .int .i64 t118, .bool t119, .bool t120] (0, 0) _ rfl bk_now Tryd.underlying49 rfl (by kernel_rfl)) rfl ?_
           exact ⟨ret_now, b_now⟩
          ·rw [if_neg c207] at H
           obtain ⟨c207b0, c207b1⟩ := eqF c207
           obtain ⟨rfl, rfl, rfl, rfl, rfl, rfl⟩ := pi6 H
           obtain ⟨hnb218, hnc218⟩ := nb_ NB127_114
           obtain ⟨hnb219, hnc219⟩ := nb_ NB127_115
           obtain ⟨hnb220, hnc220⟩ := nb_ NB127_121
           have hcz221 := blk_all5 BK127.out
           obtain ⟨hnb222, hnc222⟩ := nb_ NB114_115
           obtain ⟨hnb223, hnc223⟩ := nb_ NB114_121
           have hcz224 := blk_all5 BK114.out
           obtain ⟨hnb225, hnc225⟩ := nb_ NB115_121
           have hcz226 := blk_all5 BK115.out
           go_wp2
           refine bodyPost_ret (results_ct rfl _ _ gb115 49 #[.int .i64 0, .int .i64 0, .int .i64 0, .bool false, .bool false] (0, 0) _ rfl bk_now Tryd.underlying49 rfl (by kernel_rfl)) rfl ?_
           exact ⟨ret_now, b_now⟩
        ·replace c195 := Bool.eq_false_iff.mpr c195
         subst c195
         replace H := sh_f H
         by_cases c227 : a0_3 = 0
         ·rw [if_pos c227] at H
          obtain ⟨c227b0, c227b1⟩ := eqT c227
          clear c227
          by_cases c228 : t126 = true
          ·subst c228
           replace H := sh_t H
           obtain ⟨rfl, rfl, rfl, rfl, rfl, rfl⟩ := pi6 H
           obtain ⟨hnb229, hnc229⟩ := nb_ NB127_114
           obtain ⟨hnb230, hnc230⟩ := nb_ NB127_115
           obtain ⟨hnb231, hnc231⟩ := nb_ NB127_121
           have hcz232 := blk_all5 BK127.out
           obtain ⟨hnb233, hnc233⟩ := nb_ NB114_115
           obtain ⟨hnb234, hnc234⟩ := nb_ NB114_121
           have hcz235 := blk_all5 BK114.out
           obtain ⟨hnb236, hnc236⟩ := nb_ NB121_115
           have hcz237 := blk_all5 BK121.out
           have hcz238 := blk_all5 BK115.out
           go_wp2
           refine bodyPost_ret (results_ct rfl _ _ gb115 49 #[.int .i64 t116, .int .i64 t117, .int .i64 t118, .bool t119, .bool t120] (0, 0) _ rfl bk_now Tryd.underlying49 rfl (by kernel_rfl)) rfl ?_
           exact ⟨ret_now, b_now⟩
          ·replace c228 := Bool.eq_false_iff.mpr c228
           subst c228
           replace H := sh_f H
           by_cases c239 : a0_4 = 0
           ·rw [if_pos c239] at H
            obtain ⟨c239b0, c239b1⟩ := eqT c239
            clear c239
            obtain ⟨rfl, rfl, rfl, rfl, rfl, rfl⟩ := pi6 H
            obtain ⟨hnb240, hnc240⟩ := nb_ NB127_114
            obtain ⟨hnb241, hnc241⟩ := nb_ NB127_115
            obtain ⟨hnb242, hnc242⟩ := nb_ NB127_121
            have hcz243 := blk_all5 BK127.out
            obtain ⟨hnb244, hnc244⟩ := nb_ NB114_115
            obtain ⟨hnb245, hnc245⟩ := nb_ NB114_121
            have hcz246 := blk_all5 BK114.out
            obtain ⟨hnb247, hnc247⟩ := nb_ NB121_115
            have hcz248 := blk_all5 BK121.out
            have hcz249 := blk_all5 BK115.out
            go_wp2
            refine bodyPost_ret (results_ct rfl _ _ gb115 49 #[.int .i64 t116, .int .i64 t117, .int .i64 t118, .bool t119, .bool t120] (0, 0) _ rfl bk_now Tryd.underlying49 rfl (by kernel_rfl)) rfl ?_
            exact ⟨ret_now, b_now⟩
           ·rw [if_neg c239] at H
            obtain ⟨c239b0, c239b1⟩ := eqF c239
            obtain ⟨rfl, rfl, rfl, rfl, rfl, rfl⟩ := pi6 H
            obtain ⟨hnb250, hnc250⟩ := nb_ NB127_114
            obtain ⟨hnb251, hnc251⟩ := nb_ NB127_115
            obtain ⟨hnb252, hnc252⟩ := nb_ NB127_121
            have hcz253 := blk_all5 BK127.out
            obtain ⟨hnb254, hnc254⟩ := nb_ NB114_115
            obtain ⟨hnb255, hnc255⟩ := nb_ NB114_121
            have hcz256 := blk_all5 BK114.out
            obtain ⟨hnb257, hnc257⟩ := nb_ NB115_121
            have hcz258 := blk_all5 BK115.out
            go_wp2
            refine bodyPost_ret (results_ct rfl _ _ gb115 49 #[.int .i64 0, .int .i64 0, .int .i64 0, .bool false, .bool false] (0, 0) _ rfl bk_now Tryd.underlying49 rfl (by kernel_rfl)) rfl ?_
            exact ⟨ret_now, b_now⟩
         ·rw [if_neg c227] at H
          obtain ⟨c227b0, c227b1⟩ := eqF c227
          obtain ⟨rfl, rfl, rfl, rfl, rfl, rfl⟩ := pi6 H
          obtain ⟨hnb259, hnc259⟩ := nb_ NB127_114
          obtain ⟨hnb260, hnc260⟩ := nb_ NB127_115
          obtain ⟨hnb261, hnc261⟩ := nb_ NB127_121
          have hcz262 := blk_all5 BK127.out
          obtain ⟨hnb263, hnc263⟩ := nb_ NB114_115
          obtain ⟨hnb264, hnc264⟩ := nb_ NB114_121
          have hcz265 := blk_all5 BK114.out
          obtain ⟨hnb266, hnc266⟩ := nb_ NB115_121
          have hcz267 := blk_all5 BK115.out
          go_wp2
          refine bodyPost_ret (results_ct rfl _ _ gb115 49 #[.int .i64 0, .int .i64 0, .int .i64 0, .bool false, .bool false] (0, 0) _ rfl bk_now Tryd.underlying49 rfl (by kernel_rfl)) rfl ?_
          exact ⟨ret_now, b_now⟩
       ·rw [if_neg c194] at H
        obtain ⟨c194b0, c194b1⟩ := eqF c194
        by_cases c268 : t116 = 11
        ·rw [if_pos c268] at H
         obtain ⟨c268b0, c268b1⟩ := eqT c268
         clear c268
         by_cases c269 : t125 = true
         ·subst c269
          replace H := sh_t H
          by_cases c270 : t126 = true
          ·subst c270
           replace H := sh_t H
           obtain ⟨rfl, rfl, rfl, rfl, rfl, rfl⟩ := pi6 H
           obtain ⟨hnb271, hnc271⟩ := nb_ NB127_114
           obtain ⟨hnb272, hnc272⟩ := nb_ NB127_115
           obtain ⟨hnb273, hnc273⟩ := nb_ NB127_121
           have hcz274 := blk_all5 BK127.out
           obtain ⟨hnb275, hnc275⟩ := nb_ NB114_115
           obtain ⟨hnb276, hnc276⟩ := nb_ NB114_121
           have hcz277 := blk_all5 BK114.out
           obtain ⟨hnb278, hnc278⟩ := nb_ NB121_115
           have hcz279 := blk_all5 BK121.out
           have hcz280 := blk_all5 BK115.out
           go_wp2
           refine bodyPost_ret (results_ct rfl _ _ gb115 49 #[.int .i64 t116, .int .i64 t117, .int .i64 t118, .bool t119, .bool t120] (0, 0) _ rfl bk_now Tryd.underlying49 rfl (by kernel_rfl)) rfl ?_
           exact ⟨ret_now, b_now⟩
          ·replace c270 := Bool.eq_false_iff.mpr c270
           subst c270
           replace H := sh_f H
           by_cases c281 : a0_4 = 0
           ·rw [if_pos c281] at H
            obtain ⟨c281b0, c281b1⟩ := eqT c281
            clear c281
            obtain ⟨rfl, rfl, rfl, rfl, rfl, rfl⟩ := pi6 H
            obtain ⟨hnb282, hnc282⟩ := nb_ NB127_114
            obtain ⟨hnb283, hnc283⟩ := nb_ NB127_115
            obtain ⟨hnb284, hnc284⟩ := nb_ NB127_121
            have hcz285 := blk_all5 BK127.out
            obtain ⟨hnb286, hnc286⟩ := nb_ NB114_115
            obtain ⟨hnb287, hnc287⟩ := nb_ NB114_121
            have hcz288 := blk_all5 BK114.out
            obtain ⟨hnb289, hnc289⟩ := nb_ NB121_115
            have hcz290 := blk_all5 BK121.out
            have hcz291 := blk_all5 BK115.out
            go_wp2
            refine bodyPost_ret (results_ct rfl _ _ gb115 49 #[.int .i64 t116, .int .i64 t117, .int .i64 t118, .bool t119, .bool t120] (0, 0) _ rfl bk_now Tryd.underlying49 rfl (by kernel_rfl)) rfl ?_
            exact ⟨ret_now, b_now⟩
           ·rw [if_neg c281] at H
            obtain ⟨c281b0, c281b1⟩ := eqF c281
            obtain ⟨rfl, rfl, rfl, rfl, rfl, rfl⟩ := pi6 H
            obtain ⟨hnb292, hnc292⟩ := nb_ NB127_114
            obtain ⟨hnb293, hnc293⟩ := nb_ NB127_115
            obtain ⟨hnb294, hnc294⟩ := nb_ NB127_121
            have hcz295 := blk_all5 BK127.out
            obtain ⟨hnb296, hnc296⟩ := nb_ NB114_115
            obtain ⟨hnb297, hnc297⟩ := nb_ NB114_121
            have hcz298 := blk_all5 BK114.out
            obtain ⟨hnb299, hnc299⟩ := nb_ NB121_115
            have hcz300 := blk_all5 BK121.out
            have hcz301 := blk_all5 BK115.out
            go_wp2
            refine bodyPost_ret (results_ct rfl _ _ gb115 49 #[.int .i64 0, .int .i64 0, .int .i64 0, .bool false, .bool false] (0, 0) _ rfl bk_now Tryd.underlying49 rfl (by kernel_rfl)) rfl ?_
            exact ⟨ret_now, b_now⟩
         ·replace c269 := Bool.eq_false_iff.mpr c269
          subst c269
          replace H := sh_f H
          by_cases c302 : a0_3 = 0
          ·rw [if_pos c302] at H
           obtain ⟨c302b0, c302b1⟩ := eqT c302
           clear c302
           by_cases c303 : t126 = true
           ·subst c303
            replace H := sh_t H
            obtain ⟨rfl, rfl, rfl, rfl, rfl, rfl⟩ := pi6 H
            obtain ⟨hnb304, hnc304⟩ := nb_ NB127_114
            obtain ⟨hnb305, hnc305⟩ := nb_ NB127_115
            obtain ⟨hnb306, hnc306⟩ := nb_ NB127_121
            have hcz307 := blk_all5 BK127.out
            obtain ⟨hnb308, hnc308⟩ := nb_ NB114_115
            obtain ⟨hnb309, hnc309⟩ := nb_ NB114_121
            have hcz310 := blk_all5 BK114.out
            obtain ⟨hnb311, hnc311⟩ := nb_ NB121_115
            have hcz312 := blk_all5 BK121.out
            have hcz313 := blk_all5 BK115.out
            go_wp2
            refine bodyPost_ret (results_ct rfl _ _ gb115 49 #[.int .i64 t116, .int .i64 t117, .int .i64 t118, .bool t119, .bool t120] (0, 0) _ rfl bk_now Tryd.underlying49 rfl (by kernel_rfl)) rfl ?_
            exact ⟨ret_now, b_now⟩
           ·replace c303 := Bool.eq_false_iff.mpr c303
            subst c303
            replace H := sh_f H
            by_cases c314 : a0_4 = 0
            ·rw [if_pos c314] at H
             obtain ⟨c314b0, c314b1⟩ := eqT c314
             clear c314
             obtain ⟨rfl, rfl, rfl, rfl, rfl, rfl⟩ := pi6 H
             obtain ⟨hnb315, hnc315⟩ := nb_ NB127_114
             obtain ⟨hnb316, hnc316⟩ := nb_ NB127_115
             obtain ⟨hnb317, hnc317⟩ := nb_ NB127_121
             have hcz318 := blk_all5 BK127.out
             obtain ⟨hnb319, hnc319⟩ := nb_ NB114_115
             obtain ⟨hnb320, hnc320⟩ := nb_ NB114_121
             have hcz321 := blk_all5 BK114.out
             obtain ⟨hnb322, hnc322⟩ := nb_ NB121_115
             have hcz323 := blk_all5 BK121.out
             have hcz324 := blk_all5 BK115.out
             go_wp2
             refine bodyPost_ret (results_ct rfl _ _ gb115 49 #[.int .i64 t116, .int .i64 t117, .int .i64 t118, .bool t119, .bool t120] (0, 0) _ rfl bk_now Tryd.underlying49 rfl (by kernel_rfl)) rfl ?_
             exact ⟨ret_now, b_now⟩
            ·rw [if_neg c314] at H
             obtain ⟨c314b0, c314b1⟩ := eqF c314
             obtain ⟨rfl, rfl, rfl, rfl, rfl, rfl⟩ := pi6 H
             obtain ⟨hnb325, hnc325⟩ := nb_ NB127_114
             obtain ⟨hnb326, hnc326⟩ := nb_ NB127_115
             obtain ⟨hnb327, hnc327⟩ := nb_ NB127_121
             have hcz328 := blk_all5 BK127.out
             obtain ⟨hnb329, hnc329⟩ := nb_ NB114_115
             obtain ⟨hnb330, hnc330⟩ := nb_ NB114_121
             have hcz331 := blk_all5 BK114.out
             obtain ⟨hnb332, hnc332⟩ := nb_ NB121_115
             have hcz333 := blk_all5 BK121.out
             have hcz334 := blk_all5 BK115.out
             go_wp2
             refine bodyPost_ret (results_ct rfl _ _ gb115 49 #[.int .i64 0, .int .i64 0, .int .i64 0, .bool false, .bool false] (0, 0) _ rfl bk_now Tryd.underlying49 rfl (by kernel_rfl)) rfl ?_
             exact ⟨ret_now, b_now⟩
          ·rw [if_neg c302] at H
           obtain ⟨c302b0, c302b1⟩ := eqF c302
           obtain ⟨rfl, rfl, rfl, rfl, rfl, rfl⟩ := pi6 H
           obtain ⟨hnb335, hnc335⟩ := nb_ NB127_114
           obtain ⟨hnb336, hnc336⟩ := nb_ NB127_115
           obtain ⟨hnb337, hnc337⟩ := nb_ NB127_121
           have hcz338 := blk_all5 BK127.out
           obtain ⟨hnb339, hnc339⟩ := nb_ NB114_115
           obtain ⟨hnb340, hnc340⟩ := nb_ NB114_121
           have hcz341 := blk_all5 BK114.out
           obtain ⟨hnb342, hnc342⟩ := nb_ NB121_115
           have hcz343 := blk_all5 BK121.out
           have hcz344 := blk_all5 BK115.out
           go_wp2
           refine bodyPost_ret (results_ct rfl _ _ gb115 49 #[.int .i64 0, .int .i64 0, .int .i64 0, .bool false, .bool false] (0, 0) _ rfl bk_now Tryd.underlying49 rfl (by kernel_rfl)) rfl ?_
           exact ⟨ret_now, b_now⟩
        ·rw [if_neg c268] at H
         obtain ⟨c268b0, c268b1⟩ := eqF c268
         obtain ⟨rfl, rfl, rfl, rfl, rfl, rfl⟩ := pi6 H
         obtain ⟨hnb345, hnc345⟩ := nb_ NB127_114
         obtain ⟨hnb346, hnc346⟩ := nb_ NB127_115
         obtain ⟨hnb347, hnc347⟩ := nb_ NB127_121
         have hcz348 := blk_all5 BK127.out
         obtain ⟨hnb349, hnc349⟩ := nb_ NB114_115
         obtain ⟨hnb350, hnc350⟩ := nb_ NB114_121
         have hcz351 := blk_all5 BK114.out
         obtain ⟨hnb352, hnc352⟩ := nb_ NB121_115
         have hcz353 := blk_all5 BK121.out
         have hcz354 := blk_all5 BK115.out
         go_wp2
         refine bodyPost_ret (results_ct rfl _ _ gb115 49 #[.int .i64 0, .int .i64 0, .int .i64 0, .bool false, .bool false] (0, 0) _ rfl bk_now Tryd.underlying49 rfl (by kernel_rfl)) rfl ?_
         exact ⟨ret_now, b_now⟩
     ·replace c120 := Bool.eq_false_iff.mpr c120
      subst c120
      replace H := sh_f H
      by_cases c355 : a0_1 = 0
      ·rw [if_pos c355] at H
       obtain ⟨c355b0, c355b1⟩ := eqT c355
       clear c355
       by_cases c356 : t124 = true
       ·subst c356
        replace H := sh_t H
        by_cases c357 : t125 = true
        ·subst c357
         replace H := sh_t H
         by_cases c358 : t126 = true
         ·subst c358
          replace H := sh_t H
          obtain ⟨rfl, rfl, rfl, rfl, rfl, rfl⟩ := pi6 H
          obtain ⟨hnb359, hnc359⟩ := nb_ NB127_114
          obtain ⟨hnb360, hnc360⟩ := nb_ NB127_115
          obtain ⟨hnb361, hnc361⟩ := nb_ NB127_121
          have hcz362 := blk_all5 BK127.out
          obtain ⟨hnb363, hnc363⟩ := nb_ NB114_115
          obtain ⟨hnb364, hnc364⟩ := nb_ NB114_121
          have hcz365 := blk_all5 BK114.out
          obtain ⟨hnb366, hnc366⟩ := nb_ NB121_115
          have hcz367 := blk_all5 BK121.out
          have hcz368 := blk_all5 BK115.out
          go_wp2
          refine bodyPost_ret (results_ct rfl _ _ gb115 49 #[.int .i64 t116, .int .i64 t117, .int .i64 t118, .bool t119, .bool t120] (0, 0) _ rfl bk_now Tryd.underlying49 rfl (by kernel_rfl)) rfl ?_
          exact ⟨ret_now, b_now⟩
         ·replace c358 := Bool.eq_false_iff.mpr c358
          subst c358
          replace H := sh_f H
          by_cases c369 : a0_4 = 0
          ·rw [if_pos c369] at H
           obtain ⟨c369b0, c369b1⟩ := eqT c369
           clear c369
           obtain ⟨rfl, rfl, rfl, rfl, rfl, rfl⟩ := pi6 H
           obtain ⟨hnb370, hnc370⟩ := nb_ NB127_114
           obtain ⟨hnb371, hnc371⟩ := nb_ NB127_115
           obtain ⟨hnb372, hnc372⟩ := nb_ NB127_121
           have hcz373 := blk_all5 BK127.out
           obtain ⟨hnb374, hnc374⟩ := nb_ NB114_115
           obtain ⟨hnb375, hnc375⟩ := nb_ NB114_121
           have hcz376 := blk_all5 BK114.out
           obtain ⟨hnb377, hnc377⟩ := nb_ NB121_115
           have hcz378 := blk_all5 BK121.out
           have hcz379 := blk_all5 BK115.out
           go_wp2
           refine bodyPost_ret (results_ct rfl _ _ gb115 49 #[.int .i64 t116, .int .i64 t117, .int .i64 t118, .bool t119, .bool t120] (0, 0) _ rfl bk_now Tryd.underlying49 rfl (by kernel_rfl)) rfl ?_
           exact ⟨ret_now, b_now⟩
          ·rw [if_neg c369] at H
           obtain ⟨c369b0, c369b1⟩ := eqF c369
           obtain ⟨rfl, rfl, rfl, rfl, rfl, rfl⟩ := pi6 H
           obtain ⟨hnb380, hnc380⟩ := nb_ NB127_114
           obtain ⟨hnb381, hnc381⟩ := nb_ NB127_115
           obtain ⟨hnb382, hnc382⟩ := nb_ NB127_121
           have hcz383 := blk_all5 BK127.out
           obtain ⟨hnb384, hnc384⟩ := nb_ NB114_115
           obtain ⟨hnb385, hnc385⟩ := nb_ NB114_121
           have hcz386 := blk_all5 BK114.out
           obtain ⟨hnb387, hnc387⟩ := nb_ NB115_121
           have hcz388 := blk_all5 BK115.out
           go_wp2
           refine bodyPost_ret (results_ct rfl _ _ gb115 49 #[.int .i64 0, .int .i64 0, .int .i64 0, .bool false, .bool false] (0, 0) _ rfl bk_now Tryd.underlying49 rfl (by kernel_rfl)) rfl ?_
           exact ⟨ret_now, b_now⟩
        ·replace c357 := Bool.eq_false_iff.mpr c357
         subst c357
         replace H := sh_f H
         by_cases c389 : a0_3 = 0
         ·rw [if_pos c389] at H
          obtain ⟨c389b0, c389b1⟩ := eqT c389
          clear c389
          by_cases c390 : t126 = true
          ·subst c390
           replace H := sh_t H
           obtain ⟨rfl, rfl, rfl, rfl, rfl, rfl⟩ := pi6 H
           obtain ⟨hnb391, hnc391⟩ := nb_ NB127_114
           obtain ⟨hnb392, hnc392⟩ := nb_ NB127_115
           obtain ⟨hnb393, hnc393⟩ := nb_ NB127_121
           have hcz394 := blk_all5 BK127.out
           obtain ⟨hnb395, hnc395⟩ := nb_ NB114_115
           obtain ⟨hnb396, hnc396⟩ := nb_ NB114_121
           have hcz397 := blk_all5 BK114.out
           obtain ⟨hnb398, hnc398⟩ := nb_ NB121_115
           have hcz399 := blk_all5 BK121.out
           have hcz400 := blk_all5 BK115.out
           go_wp2
           refine bodyPost_ret (results_ct rfl _ _ gb115 49 #[.int .i64 t116, .int .i64 t117, .int .i64 t118, .bool t119, .bool t120] (0, 0) _ rfl bk_now Tryd.underlying49 rfl (by kernel_rfl)) rfl ?_
           exact ⟨ret_now, b_now⟩
          ·replace c390 := Bool.eq_false_iff.mpr c390
           subst c390
           replace H := sh_f H
           by_cases c401 : a0_4 = 0
           ·rw [if_pos c401] at H
            obtain ⟨c401b0, c401b1⟩ := eqT c401
            clear c401
            obtain ⟨rfl, rfl, rfl, rfl, rfl, rfl⟩ := pi6 H
            obtain ⟨hnb402, hnc402⟩ := nb_ NB127_114
            obtain ⟨hnb403, hnc403⟩ := nb_ NB127_115
            obtain ⟨hnb404, hnc404⟩ := nb_ NB127_121
            have hcz405 := blk_all5 BK127.out
            obtain ⟨hnb406, hnc406⟩ := nb_ NB114_115
            obtain ⟨hnb407, hnc407⟩ := nb_ NB114_121
            have hcz408 := blk_all5 BK114.out
            obtain ⟨hnb409, hnc409⟩ := nb_ NB121_115
            have hcz410 := blk_all5 BK121.out
            have hcz411 := blk_all5 BK115.out
            go_wp2
            refine bodyPost_ret (results_ct rfl _ _ gb115 49 #[.int .i64 t116, .int .i64 t117, .int .i64 t118, .bool t119, .bool t120] (0, 0) _ rfl bk_now Tryd.underlying49 rfl (by kernel_rfl)) rfl ?_
            exact ⟨ret_now, b_now⟩
           ·rw [if_neg c401] at H
            obtain ⟨c401b0, c401b1⟩ := eqF c401
            obtain ⟨rfl, rfl, rfl, rfl, rfl, rfl⟩ := pi6 H
            obtain ⟨hnb412, hnc412⟩ := nb_ NB127_114
            obtain ⟨hnb413, hnc413⟩ := nb_ NB127_115
            obtain ⟨hnb414, hnc414⟩ := nb_ NB127_121
            have hcz415 := blk_all5 BK127.out
            obtain ⟨hnb416, hnc416⟩ := nb_ NB114_115
            obtain ⟨hnb417, hnc417⟩ := nb_ NB114_121
            have hcz418 := blk_all5 BK114.out
            obtain ⟨hnb419, hnc419⟩ := nb_ NB115_121
            have hcz420 := blk_all5 BK115.out
            go_wp2
            refine bodyPost_ret (results_ct rfl _ _ gb115 49 #[.int .i64 0, .int .i64 0, .int .i64 0, .bool false, .bool false] (0, 0) _ rfl bk_now Tryd.underlying49 rfl (by kernel_rfl)) rfl ?_
            exact ⟨ret_now, b_now⟩
         ·rw [if_neg c389] at H
          obtain ⟨c389b0, c389b1⟩ := eqF c389
          obtain ⟨rfl, rfl, rfl, rfl, rfl, rfl⟩ := pi6 H
          obtain ⟨hnb421, hnc421⟩ := nb_ NB127_114
          obtain ⟨hnb422, hnc422⟩ := nb_ NB127_115
          obtain ⟨hnb423, hnc423⟩ := nb_ NB127_121
          have hcz424 := blk_all5 BK127.out
          obtain ⟨hnb425, hnc425⟩ := nb_ NB114_115
          obtain ⟨hnb426, hnc426⟩ := nb_ NB114_121
          have hcz427 := blk_all5 BK114.out
          obtain ⟨hnb428, hnc428⟩ := nb_ NB115_121
          have hcz429 := blk_all5 BK115.out
          go_wp2
          refine bodyPost_ret (results_ct rfl _ _ gb115 49 #[.int .i64 0, .int .i64 0, .int .i64 0, .bool false, .bool false] (0, 0) _ rfl bk_now Tryd.underlying49 rfl (by kernel_rfl)) rfl ?_
          exact ⟨ret_now, b_now⟩
       ·replace c356 := Bool.eq_false_iff.mpr c356
        subst c356
        replace H := sh_f H
        by_cases c430 : a0_2 = 0
        ·rw [if_pos c430] at H
         obtain ⟨c430b0, c430b1⟩ := eqT c430
         clear c430
         by_cases c431 : t125 = true
         ·subst c431
          replace H := sh_t H
          by_cases c432 : t126 = true
          ·subst c432
           replace H := sh_t H
           obtain ⟨rfl, rfl, rfl, rfl, rfl, rfl⟩ := pi6 H
           obtain ⟨hnb433, hnc433⟩ := nb_ NB127_114
           obtain ⟨hnb434, hnc434⟩ := nb_ NB127_115
           obtain ⟨hnb435, hnc435⟩ := nb_ NB127_121
           have hcz436 := blk_all5 BK127.out
           obtain ⟨hnb437, hnc437⟩ := nb_ NB114_115
           obtain ⟨hnb438, hnc438⟩ := nb_ NB114_121
           have hcz439 := blk_all5 BK114.out
           obtain ⟨hnb440, hnc440⟩ := nb_ NB121_115
           have hcz441 := blk_all5 BK121.out
           have hcz442 := blk_all5 BK115.out
           go_wp2
           refine bodyPost_ret (results_ct rfl _ _ gb115 49 #[.int .i64 t116, .int .i64 t117, .int .i64 t118, .bool t119, .bool t120] (0, 0) _ rfl bk_now Tryd.underlying49 rfl (by kernel_rfl)) rfl ?_
           exact ⟨ret_now, b_now⟩
          ·replace c432 := Bool.eq_false_iff.mpr c432
           subst c432
           replace H := sh_f H
           by_cases c443 : a0_4 = 0
           ·rw [if_pos c443] at H
            obtain ⟨c443b0, c443b1⟩ := eqT c443
            clear c443
            obtain ⟨rfl, rfl, rfl, rfl, rfl, rfl⟩ := pi6 H
            obtain ⟨hnb444, hnc444⟩ := nb_ NB127_114
            obtain ⟨hnb445, hnc445⟩ := nb_ NB127_115
            obtain ⟨hnb446, hnc446⟩ := nb_ NB127_121
            have hcz447 := blk_all5 BK127.out
            obtain ⟨hnb448, hnc448⟩ := nb_ NB114_115
            obtain ⟨hnb449, hnc449⟩ := nb_ NB114_121
            have hcz450 := blk_all5 BK114.out
            obtain ⟨hnb451, hnc451⟩ := nb_ NB121_115
            have hcz452 := blk_all5 BK121.out
            have hcz453 := blk_all5 BK115.out
            go_wp2
            refine bodyPost_ret (results_ct rfl _ _ gb115 49 #[.int .i64 t116, .int .i64 t117, .int .i64 t118, .bool t119, .bool t120] (0, 0) _ rfl bk_now Tryd.underlying49 rfl (by kernel_rfl)) rfl ?_
            exact ⟨ret_now, b_now⟩
           ·rw [if_neg c443] at H
            obtain ⟨c443b0, c443b1⟩ := eqF c443
            obtain ⟨rfl, rfl, rfl, rfl, rfl, rfl⟩ := pi6 H
            obtain ⟨hnb454, hnc454⟩ := nb_ NB127_114
            obtain ⟨hnb455, hnc455⟩ := nb_ NB127_115
            obtain ⟨hnb456, hnc456⟩ := nb_ NB127_121
            have hcz457 := blk_all5 BK127.out
            obtain ⟨hnb458, hnc458⟩ := nb_ NB114_115
            obtain ⟨hnb459, hnc459⟩ := nb_ NB114_121
            have hcz460 := blk_all5 BK114.out
            obtain ⟨hnb461, hnc461⟩ := nb_ NB115_121
            have hcz462 := blk_all5 BK115.out
            go_wp2
            refine bodyPost_ret (results_ct rfl _ _ gb115 49 #[.int .i64 0, .int .i64 0, .int .i64 0, .bool false, .bool false] (0, 0) _ rfl bk_now Tryd.underlying49 rfl (by kernel_rfl)) rfl ?_
            exact ⟨ret_now, b_now⟩
         ·replace c431 := Bool.eq_false_iff.mpr c431
          subst c431
          replace H := sh_f H
          by_cases c463 : a0_3 = 0
          ·rw [if_pos c463] at H
           obtain ⟨c463b0, c463b1⟩ := eqT c463
           clear c463
           by_cases c464 : t126 = true
           ·subst c464
            replace H := sh_t H
            obtain ⟨rfl, rfl, rfl, rfl, rfl, rfl⟩ := pi6 H
            obtain ⟨hnb465, hnc465⟩ := nb_ NB127_114
            obtain ⟨hnb466, hnc466⟩ := nb_ NB127_115
            obtain ⟨hnb467, hnc467⟩ := nb_ NB127_121
            have hcz468 := blk_all5 BK127.out
            obtain ⟨hnb469, hnc469⟩ := nb_ NB114_115
            obtain ⟨hnb470, hnc470⟩ := nb_ NB114_121
            have hcz471 := blk_all5 BK114.out
            obtain ⟨hnb472, hnc472⟩ := nb_ NB121_115
            have hcz473 := blk_all5 BK121.out
            have hcz474 := blk_all5 BK115.out
            go_wp2
            refine bodyPost_ret (results_ct rfl _ _ gb115 49 #[.int .i64 t116, .int .i64 t117, .int .i64 t118, .bool t119, .bool t120] (0, 0) _ rfl bk_now Tryd.underlying49 rfl (by kernel_rfl)) rfl ?_
            exact ⟨ret_now, b_now⟩
           ·replace c464 := Bool.eq_false_iff.mpr c464
            subst c464
            replace H := sh_f H
            by_cases c475 : a0_4 = 0
            ·rw [if_pos c475] at H
             obtain ⟨c475b0, c475b1⟩ := eqT c475
             clear c475
             obtain ⟨rfl, rfl, rfl, rfl, rfl, rfl⟩ := pi6 H
             obtain ⟨hnb476, hnc476⟩ := nb_ NB127_114
             obtain ⟨hnb477, hnc477⟩ := nb_ NB127_115
             obtain ⟨hnb478, hnc478⟩ := nb_ NB127_121
             have hcz479 := blk_all5 BK127.out
             obtain ⟨hnb480, hnc480⟩ := nb_ NB114_115
             obtain ⟨hnb481, hnc481⟩ := nb_ NB114_121
             have hcz482 := blk_all5 BK114.out
             obtain ⟨hnb483, hnc483⟩ := nb_ NB121_115
             have hcz484 := blk_all5 BK121.out
             have hcz485 := blk_all5 BK115.out
             go_wp2
             refine bodyPost_ret (results_ct rfl _ _ gb115 49 #[.int .i64 t116, .int .i64 t117, .int .i64 t118, .bool t119, .bool t120] (0, 0) _ rfl bk_now Tryd.underlying49 rfl (by kernel_rfl)) rfl ?_
             exact ⟨ret_now, b_now⟩
            ·rw [if_neg c475] at H
             obtain ⟨c475b0, c475b1⟩ := eqF c475
             obtain ⟨rfl, rfl, rfl, rfl, rfl, rfl⟩ := pi6 H
             obtain ⟨hnb486, hnc486⟩ := nb_ NB127_114
             obtain ⟨hnb487, hnc487⟩ := nb_ NB127_115
             obtain ⟨hnb488, hnc488⟩ := nb_ NB127_121
             have hcz489 := blk_all5 BK127.out
             obtain ⟨hnb490, hnc490⟩ := nb_ NB114_115
             obtain ⟨hnb491, hnc491⟩ := nb_ NB114_121
             have hcz492 := blk_all5 BK114.out
             obtain ⟨hnb493, hnc493⟩ := nb_ NB115_121
             have hcz494 := blk_all5 BK115.out
             go_wp2
             refine bodyPost_ret (results_ct rfl _ _ gb115 49 #[.int .i64 0, .int .i64 0, .int .i64 0, .bool false, .bool false] (0, 0) _ rfl bk_now Tryd.underlying49 rfl (by kernel_rfl)) rfl ?_
             exact ⟨ret_now, b_now⟩
          ·rw [if_neg c463] at H
           obtain ⟨c463b0, c463b1⟩ := eqF c463
           obtain ⟨rfl, rfl, rfl, rfl, rfl, rfl⟩ := pi6 H
           obtain ⟨hnb495, hnc495⟩ := nb_ NB127_114
           obtain ⟨hnb496, hnc496⟩ := nb_ NB127_115
           obtain ⟨hnb497, hnc497⟩ := nb_ NB127_121
           have hcz498 := blk_all5 BK127.out
           obtain ⟨hnb499, hnc499⟩ := nb_ NB114_115
           obtain ⟨hnb500, hnc500⟩ := nb_ NB114_121
           have hcz501 := blk_all5 BK114.out
           obtain ⟨hnb502, hnc502⟩ := nb_ NB115_121
           have hcz503 := blk_all5 BK115.out
           go_wp2
           refine bodyPost_ret (results_ct rfl _ _ gb115 49 #[.int .i64 0, .int .i64 0, .int .i64 0, .bool false, .bool false] (0, 0) _ rfl bk_now Tryd.underlying49 rfl (by kernel_rfl)) rfl ?_
           exact ⟨ret_now, b_now⟩
        ·rw [if_neg c430] at H
         obtain ⟨c430b0, c430b1⟩ := eqF c430
         by_cases c504 : t116 = 11
         ·rw [if_pos c504] at H
          obtain ⟨c504b0, c504b1⟩ := eqT c504
          clear c504
          by_cases c505 : t125 = true
          ·subst c505
           replace H := sh_t H
           by_cases c506 : t126 = true
           ·subst c506
            replace H := sh_t H
            obtain ⟨rfl, rfl, rfl, rfl, rfl, rfl⟩ := pi6 H
            obtain ⟨hnb507, hnc507⟩ := nb_ NB127_114
            obtain ⟨hnb508, hnc508⟩ := nb_ NB127_115
            obtain ⟨hnb509, hnc509⟩ := nb_ NB127_121
            have hcz510 := blk_all5 BK127.out
            obtain ⟨hnb511, hnc511⟩ := nb_ NB114_115
            obtain ⟨hnb512, hnc512⟩ := nb_ NB114_121
            have hcz513 := blk_all5 BK114.out
            obtain ⟨hnb514, hnc514⟩ := nb_ NB121_115
            have hcz515 := blk_all5 BK121.out
            have hcz516 := blk_all5 BK115.out
            go_wp2
            refine bodyPost_ret (results_ct rfl _ _ gb115 49 #[.int .i64 t116, .int .i64 t117, .int .i64 t118, .bool t119, .bool t120] (0, 0) _ rfl bk_now Tryd.underlying49 rfl (by kernel_rfl)) rfl ?_
            exact ⟨ret_now, b_now⟩
           ·replace c506 := Bool.eq_false_iff.mpr c506
            subst c506
            replace H := sh_f H
            by_cases c517 : a0_4 = 0
            ·rw [if_pos c517] at H
             obtain ⟨c517b0, c517b1⟩ := eqT c517
             clear c517
             obtain ⟨rfl, rfl, rfl, rfl, rfl, rfl⟩ := pi6 H
             obtain ⟨hnb518, hnc518⟩ := nb_ NB127_114
             obtain ⟨hnb519, hnc519⟩ := nb_ NB127_115
             obtain ⟨hnb520, hnc520⟩ := nb_ NB127_121
             have hcz521 := blk_all5 BK127.out
             obtain ⟨hnb522, hnc522⟩ := nb_ NB114_115
             obtain ⟨hnb523, hnc523⟩ := nb_ NB114_121
             have hcz524 := blk_all5 BK114.out
             obtain ⟨hnb525, hnc525⟩ := nb_ NB121_115
             have hcz526 := blk_all5 BK121.out
             have hcz527 := blk_all5 BK115.out
             go_wp2
             refine bodyPost_ret (results_ct rfl _ _ gb115 49 #[.int .i64 t116, .int .i64 t117, .int .i64 t118, .bool t119, .bool t120] (0, 0) _ rfl bk_now Tryd.underlying49 rfl (by kernel_rfl)) rfl ?_
             exact ⟨ret_now, b_now⟩
            ·rw [if_neg c517] at H
             obtain ⟨c517b0, c517b1⟩ := eqF c517
             obtain ⟨rfl, rfl, rfl, rfl, rfl, rfl⟩ := pi6 H
             obtain ⟨hnb528, hnc528⟩ := nb_ NB127_114
             obtain ⟨hnb529, hnc529⟩ := nb_ NB127_115
             obtain ⟨hnb530, hnc530⟩ := nb_ NB127_121
             have hcz531 := blk_all5 BK127.out
             obtain ⟨hnb532, hnc532⟩ := nb_ NB114_115
             obtain ⟨hnb533, hnc533⟩ := nb_ NB114_121
             have hcz534 := blk_all5 BK114.out
             obtain ⟨hnb535, hnc535⟩ := nb_ NB121_115
             have hcz536 := blk_all5 BK121.out
             have hcz537 := blk_all5 BK115.out
             go_wp2
             refine bodyPost_ret (results_ct rfl _ _ gb115 49 #[.int .i64 0, .int .i64 0, .int .i64 0, .bool false, .bool false] (0, 0) _ rfl bk_now Tryd.underlying49 rfl (by kernel_rfl)) rfl ?_
             exact ⟨ret_now, b_now⟩
          ·replace c505 := Bool.eq_false_iff.mpr c505
           subst c505
           replace H := sh_f H
           by_cases c538 : a0_3 = 0
           ·rw [if_pos c538] at H
            obtain ⟨c538b0, c538b1⟩ := eqT c538
            clear c538
            by_cases c539 : t126 = true
            ·subst c539
             replace H := sh_t H
             obtain ⟨rfl, rfl, rfl, rfl, rfl, rfl⟩ := pi6 H
             obtain ⟨hnb540, hnc540⟩ := nb_ NB127_114
             obtain ⟨hnb541, hnc541⟩ := nb_ NB127_115
             obtain ⟨hnb542, hnc542⟩ := nb_ NB127_121
             have hcz543 := blk_all5 BK127.out
             obtain ⟨hnb544, hnc544⟩ := nb_ NB114_115
             obtain ⟨hnb545, hnc545⟩ := nb_ NB114_121
             have hcz546 := blk_all5 BK114.out
             obtain ⟨hnb547, hnc547⟩ := nb_ NB121_115
             have hcz548 := blk_all5 BK121.out
             have hcz549 := blk_all5 BK115.out
             go_wp2
             refine bodyPost_ret (results_ct rfl _ _ gb115 49 #[.int .i64 t116, .int .i64 t117, .int .i64 t118, .bool t119, .bool t120] (0, 0) _ rfl bk_now Tryd.underlying49 rfl (by kernel_rfl)) rfl ?_
             exact ⟨ret_now, b_now⟩
            ·replace c539 := Bool.eq_false_iff.mpr c539
             subst c539
             replace H := sh_f H
             by_cases c550 : a0_4 = 0
             ·rw [if_pos c550] at H
              obtain ⟨c550b0, c550b1⟩ := eqT c550
              clear c550
              obtain ⟨rfl, rfl, rfl, rfl, rfl, rfl⟩ := pi6 H
              obtain ⟨hnb551, hnc551⟩ := nb_ NB127_114
              obtain ⟨hnb552, hnc552⟩ := nb_ NB127_115
              obtain ⟨hnb553, hnc553⟩ := nb_ NB127_121
              have hcz554 := blk_all5 BK127.out
              obtain ⟨hnb555, hnc555⟩ := nb_ NB114_115
              obtain ⟨hnb556, hnc556⟩ := nb_ NB114_121
              have hcz557 := blk_all5 BK114.out
              obtain ⟨hnb558, hnc558⟩ := nb_ NB121_115
              have hcz559 := blk_all5 BK121.out
              have hcz560 := blk_all5 BK115.out
              go_wp2
              refine bodyPost_ret (results_ct rfl _ _ gb115 49 #[.int .i64 t116, .int .i64 t117, .int .i64 t118, .bool t119, .bool t120] (0, 0) _ rfl bk_now Tryd.underlying49 rfl (by kernel_rfl)) rfl ?_
              exact ⟨ret_now, b_now⟩
             ·rw [if_neg c550] at H
              obtain ⟨c550b0, c550b1⟩ := eqF c550
              obtain ⟨rfl, rfl, rfl, rfl, rfl, rfl⟩ := pi6 H
              obtain ⟨hnb561, hnc561⟩ := nb_ NB127_114
              obtain ⟨hnb562, hnc562⟩ := nb_ NB127_115
              obtain ⟨hnb563, hnc563⟩ := nb_ NB127_121
              have hcz564 := blk_all5 BK127.out
              obtain ⟨hnb565, hnc565⟩ := nb_ NB114_115
              obtain ⟨hnb566, hnc566⟩ := nb_ NB114_121
              have hcz567 := blk_all5 BK114.out
              obtain ⟨hnb568, hnc568⟩ := nb_ NB121_115
              have hcz569 := blk_all5 BK121.out
              have hcz570 := blk_all5 BK115.out
              go_wp2
              refine bodyPost_ret (results_ct rfl _ _ gb115 49 #[.int .i64 0, .int .i64 0, .int .i64 0, .bool false, .bool false] (0, 0) _ rfl bk_now Tryd.underlying49 rfl (by kernel_rfl)) rfl ?_
              exact ⟨ret_now, b_now⟩
           ·rw [if_neg c538] at H
            obtain ⟨c538b0, c538b1⟩ := eqF c538
            obtain ⟨rfl, rfl, rfl, rfl, rfl, rfl⟩ := pi6 H
            obtain ⟨hnb571, hnc571⟩ := nb_ NB127_114
            obtain ⟨hnb572, hnc572⟩ := nb_ NB127_115
            obtain ⟨hnb573, hnc573⟩ := nb_ NB127_121
            have hcz574 := blk_all5 BK127.out
            obtain ⟨hnb575, hnc575⟩ := nb_ NB114_115
            obtain ⟨hnb576, hnc576⟩ := nb_ NB114_121
            have hcz577 := blk_all5 BK114.out
            obtain ⟨hnb578, hnc578⟩ := nb_ NB121_115
            have hcz579 := blk_all5 BK121.out
            have hcz580 := blk_all5 BK115.out
            go_wp2
            refine bodyPost_ret (results_ct rfl _ _ gb115 49 #[.int .i64 0, .int .i64 0, .int .i64 0, .bool false, .bool false] (0, 0) _ rfl bk_now Tryd.underlying49 rfl (by kernel_rfl)) rfl ?_
            exact ⟨ret_now, b_now⟩
         ·rw [if_neg c504] at H
          obtain ⟨c504b0, c504b1⟩ := eqF c504
          obtain ⟨rfl, rfl, rfl, rfl, rfl, rfl⟩ := pi6 H
          obtain ⟨hnb581, hnc581⟩ := nb_ NB127_114
          obtain ⟨hnb582, hnc582⟩ := nb_ NB127_115
          obtain ⟨hnb583, hnc583⟩ := nb_ NB127_121
          have hcz584 := blk_all5 BK127.out
          obtain ⟨hnb585, hnc585⟩ := nb_ NB114_115
          obtain ⟨hnb586, hnc586⟩ := nb_ NB114_121
          have hcz587 := blk_all5 BK114.out
          obtain ⟨hnb588, hnc588⟩ := nb_ NB121_115
          have hcz589 := blk_all5 BK121.out
          have hcz590 := blk_all5 BK115.out
          go_wp2
          refine bodyPost_ret (results_ct rfl _ _ gb115 49 #[.int .i64 0, .int .i64 0, .int .i64 0, .bool false, .bool false] (0, 0) _ rfl bk_now Tryd.underlying49 rfl (by kernel_rfl)) rfl ?_
          exact ⟨ret_now, b_now⟩
      ·rw [if_neg c355] at H
       obtain ⟨c355b0, c355b1⟩ := eqF c355
       obtain ⟨rfl, rfl, rfl, rfl, rfl, rfl⟩ := pi6 H
       obtain ⟨hnb591, hnc591⟩ := nb_ NB127_114
       obtain ⟨hnb592, hnc592⟩ := nb_ NB127_115
       obtain ⟨hnb593, hnc593⟩ := nb_ NB127_121
       have hcz594 := blk_all5 BK127.out
       obtain ⟨hnb595, hnc595⟩ := nb_ NB114_115
       obtain ⟨hnb596, hnc596⟩ := nb_ NB114_121
       have hcz597 := blk_all5 BK114.out
       obtain ⟨hnb598, hnc598⟩ := nb_ NB115_121
       have hcz599 := blk_all5 BK115.out
       go_wp2
       refine bodyPost_ret (results_ct rfl _ _ gb115 49 #[.int .i64 0, .int .i64 0, .int .i64 0, .bool false, .bool false] (0, 0) _ rfl bk_now Tryd.underlying49 rfl (by kernel_rfl)) rfl ?_
       exact ⟨ret_now, b_now⟩

end Go.Proofs.YtondogoepcndiaaDoor.P
