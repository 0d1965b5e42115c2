/- Made by this session's driver over the kit's printer: for each Go function a Lean function with the same answers, and a proof that the Go call comes to these answers; no conditions but the ones each theorem names. -/
import Derived.Test.YtondogoepcndiaaDoorPx0
import Derived.Test.YtondogoepcndiaaDoorPx2
import Derived.Test.YtondogoepcndiaaDoorPx4
import Derived.Test.YtondogoepcndiaaDoorPx6
namespace Go.Proofs.YtondogoepcndiaaDoor.P
open Go.RowKit Go.Proofs.YtondogoepcndiaaDoorW.PrintWords Go.Proofs.YtondogoepcndiaaDoorW.PrintLast Go.Proofs.YtondogoepcndiaaDoorW.PrintMore
attribute [local go_sem] max2_int min2_int max_two min_two max_three min_three max_four min_four   -- for this text's walks alone
set_option linter.unusedVariables false
set_option linter.unusedSimpArgs false

attribute [local go_sem high] eqA49
/-! ### insn_Make: function 40 -/
mutual
def insn_Make.j0 : Nat → Int → Int → Int → Int → Bool → Bool → Int → Int → Int → Int → Int → Option (Int × Int × Int × Int × Int × Int)
 | 0, _, _, _, _, _, _, _, _, _, _, _ => none
 | k + 1, x6, x269000, x269001, x269002, x269003, x269004, x270000, x270001, x270002, x270003, x270004 => if x269000 = 1 then (if x269003 = true then (insn_Make.j3 k x269000 x269001 x269002 x269003 x269004 (Go.bits .or .u8 (Go.bits .or .u8 (Go.bits .or .u8 ((((x269001) % 256) * 16) % 256) x6) 4) 3) x270001 x270002 x270003 x270004) else (insn_Make.j3 k x269000 x269001 x269002 x269003 x269004 (Go.bits .or .u8 (Go.bits .or .u8 ((((x269001) % 256) * 16) % 256) x6) 4) x270001 x270002 x270003 x270004)) else (if x269000 = 6 then (if x269003 = true then (insn_Make.j3 k x269000 x269001 x269002 x269003 x269004 (Go.bits .xor .u8 (Go.bits .or .u8 (Go.bits .or .u8 ((((x269001) % 256) * 16) % 256) x6) 6) 3) x270001 x270002 x270003 x270004) else (insn_Make.j3 k x269000 x269001 x269002 x269003 x269004 (Go.bits .or .u8 (Go.bits .or .u8 ((((x269001) % 256) * 16) % 256) x6) 6) x270001 x270002 x270003 x270004)) else (if x269000 = 2 then (insn_Make.j3 k x269000 x269001 x269002 x269003 x269004 215 x270001 x270002 x270003 (wrap32 (wrap64 (8 * (Go.bits .and .i64 x269002 15))))) else (if x269000 = 3 then (insn_Make.j1 k (x269000 == 3) x269000 x269001 x269002 x269003 x269004 x270000 x270001 x270002 x270003 x270004) else (if x269000 = 4 then (insn_Make.j1 k (x269000 == 4) x269000 x269001 x269002 x269003 x269004 x270000 x270001 x270002 x270003 x270004) else (insn_Make.j1 k (x269000 == 5) x269000 x269001 x269002 x269003 x269004 x270000 x270001 x270002 x270003 x270004)))))
def insn_Make.j3 : Nat → Int → Int → Int → Bool → Bool → Int → Int → Int → Int → Int → Option (Int × Int × Int × Int × Int × Int)
 | 0, _, _, _, _, _, _, _, _, _, _ => none
 | k + 1, x269000, x269001, x269002, x269003, x269004, x270000, x270001, x270002, x270003, x270004 => if (x269000 == 0 && (x269001 == 0 && (x269002 == 0 && (!x269003 && (!x269004))))) = true then (insn_Make.j4 k true x270000 x270001 x270002 x270003 x270004) else ((insn_kind.f k x270000 x270001 x270002 x270003 x270004).bind fun bt274 => (insn_Make.j4 k (!(bt274.1 == x269000) || (!(bt274.2.1 == x269001) || (!(bt274.2.2.1 == x269002) || (!(bt274.2.2.2.1 == x269003) || (!(bt274.2.2.2.2 == x269004)))))) x270000 x270001 x270002 x270003 x270004))
def insn_Make.j4 : Nat → Bool → Int → Int → Int → Int → Int → Option (Int × Int × Int × Int × Int × Int)
 | 0, _, _, _, _, _, _ => none
 | k + 1, x107, x270000, x270001, x270002, x270003, x270004 => if x107 = true then (some (0, 0, 0, 0, 0, 1)) else ((insn_Of.f k x270000 x270001 x270002 x270003 x270004).bind fun bt279 => (if bt279.2.2.2.2.2 = 0 then (some (x270000, x270001, x270002, x270003, x270004, 0)) else (some (0, 0, 0, 0, 0, bt279.2.2.2.2.2))))
def insn_Make.j1 : Nat → Bool → Int → Int → Int → Bool → Bool → Int → Int → Int → Int → Int → Option (Int × Int × Int × Int × Int × Int)
 | 0, _, _, _, _, _, _, _, _, _, _, _ => none
 | k + 1, x72, x269000, x269001, x269002, x269003, x269004, x270000, x270001, x270002, x270003, x270004 => if x72 = true then (if 0 ≤ x269000 then (if x269000 < 6 then (insn_Make.l0 k 0 x269000 x269001 x269002 x269003 x269004 (Go.bits .or .u8 96 (rdOf (0 : Int) ([0, 0, 0, 1, 3, 2] : List Int) x269000)) x270001 x270002 x270003 x270004) else (none)) else (none)) else (if 0 ≤ (mx 0 (mn x269000 11)) then (if (mx 0 (mn x269000 11)) < 12 then (if x269000 ≥ 10 then (insn_Make.j3 k x269000 x269001 x269002 x269003 x269004 (rdOf (0 : Int) ([0, 0, 0, 0, 0, 0, 0, 5, 133, 149, 24, 24] : List Int) (mx 0 (mn x269000 11))) x270001 (((mx 0 (mn x269000 12)) - 10) % 256) x270003 x270004) else (insn_Make.j3 k x269000 x269001 x269002 x269003 x269004 (rdOf (0 : Int) ([0, 0, 0, 0, 0, 0, 0, 5, 133, 149, 24, 24] : List Int) (mx 0 (mn x269000 11))) x270001 x270002 x270003 x270004)) else (none)) else (none))
def insn_Make.l0 : Nat → Int → Int → Int → Int → Bool → Bool → Int → Int → Int → Int → Int → Option (Int × Int × Int × Int × Int × Int)
 | 0, _, _, _, _, _, _, _, _, _, _, _ => none
 | k + 1, x7, x269000, x269001, x269002, x269003, x269004, x270000, x270001, x270002, x270003, x270004 => if x7 < 4 then (if 0 ≤ x7 then (if (rd gl2 x7) = x269002 then (insn_Make.l0 k (wrap64 (x7 + 1)) x269000 x269001 x269002 x269003 x269004 (Go.bits .or .u8 x270000 ((((x7) % 256) * 8) % 256)) x270001 x270002 x270003 x270004) else (insn_Make.l0 k (wrap64 (x7 + 1)) x269000 x269001 x269002 x269003 x269004 x270000 x270001 x270002 x270003 x270004)) else (none)) else (insn_Make.j3 k x269000 x269001 x269002 x269003 x269004 x270000 x270001 x270002 x270003 x270004)
end
def insn_Make.f (k : Nat) (a0_0 : Int) (a0_1 : Int) (a0_2 : Int) (a0_3 : Bool) (a0_4 : Bool) (a1_0 : Int) (a1_1 : Int) (a1_2 : Int) (a1_3 : Int) (a1_4 : Int) : Option (Int × Int × Int × Int × Int × Int) := if a0_4 = true then (insn_Make.j0 k 8 a0_0 a0_1 a0_2 a0_3 a0_4 a1_0 a1_1 a1_2 a1_3 a1_4) else (insn_Make.j0 k 0 a0_0 a0_1 a0_2 a0_3 a0_4 a1_0 a1_1 a1_2 a1_3 a1_4)
theorem insn_Make.mono_l : ∀ k, (∀ y0 y1 y2 y3 y4 y5 y6 y7 y8 y9 y10, LeO (insn_Make.j0 k y0 y1 y2 y3 y4 y5 y6 y7 y8 y9 y10) (insn_Make.j0 (k + 1) y0 y1 y2 y3 y4 y5 y6 y7 y8 y9 y10)) ∧ (∀ y0 y1 y2 y3 y4 y5 y6 y7 y8 y9, LeO (insn_Make.j3 k y0 y1 y2 y3 y4 y5 y6 y7 y8 y9) (insn_Make.j3 (k + 1) y0 y1 y2 y3 y4 y5 y6 y7 y8 y9)) ∧ (∀ y0 y1 y2 y3 y4 y5, LeO (insn_Make.j4 k y0 y1 y2 y3 y4 y5) (insn_Make.j4 (k + 1) y0 y1 y2 y3 y4 y5)) ∧ (∀ y0 y1 y2 y3 y4 y5 y6 y7 y8 y9 y10, LeO (insn_Make.j1 k y0 y1 y2 y3 y4 y5 y6 y7 y8 y9 y10) (insn_Make.j1 (k + 1) y0 y1 y2 y3 y4 y5 y6 y7 y8 y9 y10)) ∧ (∀ y0 y1 y2 y3 y4 y5 y6 y7 y8 y9 y10, LeO (insn_Make.l0 k y0 y1 y2 y3 y4 y5 y6 y7 y8 y9 y10) (insn_Make.l0 (k + 1) y0 y1 y2 y3 y4 y5 y6 y7 y8 y9 y10))
 | 0 => ⟨fun _ _ _ _ _ _ _ _ _ _ _ r h => by simp [insn_Make.j0] at h, fun _ _ _ _ _ _ _ _ _ _ r h => by simp [insn_Make.j3] at h, fun _ _ _ _ _ _ r h => by simp [insn_Make.j4] at h, fun _ _ _ _ _ _ _ _ _ _ _ r h => by simp [insn_Make.j1] at h, fun _ _ _ _ _ _ _ _ _ _ _ r h => by simp [insn_Make.l0] at h⟩
 | k + 1 => by
  obtain ⟨ih0, ih1, ih2, ih3, ih4⟩ := insn_Make.mono_l k
  refine ⟨?_, ?_, ?_, ?_, ?_⟩
  ·intro y0 y1 y2 y3 y4 y5 y6 y7 y8 y9 y10
   unfold insn_Make.j0
   repeat' first
   | (with_reducible exact ih0 _ _ _ _ _ _ _ _ _ _ _)
   | (with_reducible exact ih1 _ _ _ _ _ _ _ _ _ _)
   | (with_reducible exact ih2 _ _ _ _ _ _)
   | (with_reducible exact ih3 _ _ _ _ _ _ _ _ _ _ _)
   | (with_reducible exact ih4 _ _ _ _ _ _ _ _ _ _ _)
   | (with_reducible exact insn_Of.mono _ _ _ _ _ _)
   | (with_reducible exact insn_kind.mono _ _ _ _ _ _)
   | (with_reducible exact LeO.refl _)
   | (with_reducible exact LeO.none _)
   | (with_reducible refine LeO.ite ?_ ?_)
   | (with_reducible refine LeO.bind ?_ (fun _ => ?_))
   | refine LeO.ite ?_ ?_
   | refine LeO.bind ?_ (fun _ => ?_)
  ·intro y0 y1 y2 y3 y4 y5 y6 y7 y8 y9
   unfold insn_Make.j3
   repeat' first
   | (with_reducible exact ih0 _ _ _ _ _ _ _ _ _ _ _)
   | (with_reducible exact ih1 _ _ _ _ _ _ _ _ _ _)
   | (with_reducible exact ih2 _ _ _ _ _ _)
   | (with_reducible exact ih3 _ _ _ _ _ _ _ _ _ _ _)
   | (with_reducible exact ih4 _ _ _ _ _ _ _ _ _ _ _)
   | (with_reducible exact insn_Of.mono _ _ _ _ _ _)
   | (with_reducible exact insn_kind.mono _ _ _ _ _ _)
   | (with_reducible exact LeO.refl _)
   | (with_reducible exact LeO.none _)
   | (with_reducible refine LeO.ite ?_ ?_)
   | (with_reducible refine LeO.bind ?_ (fun _ => ?_))
   | refine LeO.ite ?_ ?_
   | refine LeO.bind ?_ (fun _ => ?_)
  ·intro y0 y1 y2 y3 y4 y5
   unfold insn_Make.j4
   repeat' first
   | (with_reducible exact ih0 _ _ _ _ _ _ _ _ _ _ _)
   | (with_reducible exact ih1 _ _ _ _ _ _ _ _ _ _)
   | (with_reducible exact ih2 _ _ _ _ _ _)
   | (with_reducible exact ih3 _ _ _ _ _ _ _ _ _ _ _)
   | (with_reducible exact ih4 _ _ _ _ _ _ _ _ _ _ _)
   | (with_reducible exact insn_Of.mono _ _ _ _ _ _)
   | (with_reducible exact insn_kind.mono _ _ _ _ _ _)
   | (with_reducible exact LeO.refl _)
   | (with_reducible exact LeO.none _)
   | (with_reducible refine LeO.ite ?_ ?_)
   | (with_reducible refine LeO.bind ?_ (fun _ => ?_))
   | refine LeO.ite ?_ ?_
   | refine LeO.bind ?_ (fun _ => ?_)
  ·intro y0 y1 y2 y3 y4 y5 y6 y7 y8 y9 y10
   unfold insn_Make.j1
   repeat' first
   | (with_reducible exact ih0 _ _ _ _ _ _ _ _ _ _ _)
   | (with_reducible exact ih1 _ _ _ _ _ _ _ _ _ _)
   | (with_reducible exact ih2 _ _ _ _ _ _)
   | (with_reducible exact ih3 _ _ _ _ _ _ _ _ _ _ _)
   | (with_reducible exact ih4 _ _ _ _ _ _ _ _ _ _ _)
   | (with_reducible exact insn_Of.mono _ _ _ _ _ _)
   | (with_reducible exact insn_kind.mono _ _ _ _ _ _)
   | (with_reducible exact LeO.refl _)
   | (with_reducible exact LeO.none _)
   | (with_reducible refine LeO.ite ?_ ?_)
   | (with_reducible refine LeO.bind ?_ (fun _ => ?_))
   | refine LeO.ite ?_ ?_
   | refine LeO.bind ?_ (fun _ => ?_)
  ·intro y0 y1 y2 y3 y4 y5 y6 y7 y8 y9 y10
   unfold insn_Make.l0
   repeat' first
   | (with_reducible exact ih0 _ _ _ _ _ _ _ _ _ _ _)
   | (with_reducible exact ih1 _ _ _ _ _ _ _ _ _ _)
   | (with_reducible exact ih2 _ _ _ _ _ _)
   | (with_reducible exact ih3 _ _ _ _ _ _ _ _ _ _ _)
   | (with_reducible exact ih4 _ _ _ _ _ _ _ _ _ _ _)
   | (with_reducible exact insn_Of.mono _ _ _ _ _ _)
   | (with_reducible exact insn_kind.mono _ _ _ _ _ _)
   | (with_reducible exact LeO.refl _)
   | (with_reducible exact LeO.none _)
   | (with_reducible refine LeO.ite ?_ ?_)
   | (with_reducible refine LeO.bind ?_ (fun _ => ?_))
   | refine LeO.ite ?_ ?_
   | refine LeO.bind ?_ (fun _ => ?_)
theorem insn_Make.mono : ∀ a0 a1 a2 a3 a4 a5 a6 a7 a8 a9 k, LeO (insn_Make.f k a0 a1 a2 a3 a4 a5 a6 a7 a8 a9) (insn_Make.f (k + 1) a0 a1 a2 a3 a4 a5 a6 a7 a8 a9) := by
 intro a0 a1 a2 a3 a4 a5 a6 a7 a8 a9 k
 obtain ⟨ih0, ih1, ih2, ih3, ih4⟩ := insn_Make.mono_l k
 unfold insn_Make.f
 repeat' first
   | (with_reducible exact ih0 _ _ _ _ _ _ _ _ _ _ _)
   | (with_reducible exact ih1 _ _ _ _ _ _ _ _ _ _)
   | (with_reducible exact ih2 _ _ _ _ _ _)
   | (with_reducible exact ih3 _ _ _ _ _ _ _ _ _ _ _)
   | (with_reducible exact ih4 _ _ _ _ _ _ _ _ _ _ _)
   | (with_reducible exact insn_Of.mono _ _ _ _ _ _)
   | (with_reducible exact insn_kind.mono _ _ _ _ _ _)
   | (with_reducible exact LeO.refl _)
   | (with_reducible exact LeO.none _)
   | (with_reducible refine LeO.ite ?_ ?_)
   | (with_reducible refine LeO.bind ?_ (fun _ => ?_))
   | refine LeO.ite ?_ ?_
   | refine LeO.bind ?_ (fun _ => ?_)
def insn_Make.T28 : Bool × List (List Nat × List Nat) := (true, [([], []), ([], []), ([0, 1], [0, 1]), ([2], [2]), ([3], [3]), ([4, 3, 3], [3, 4]), ([3], [3]), ([5, 6, 3], [3, 5, 6]), ([3, 7], [3, 7])])
def insn_Make.B28 : List Nat := [0, 0, 3, 7, 15, 31, 15, 127, 255]
theorem insn_Make.tab28 : rtab .any (opsOf Tryd.f40 28) = insn_Make.T28 := by kernel_rfl
theorem insn_Make.bits28 : waitsOk insn_Make.T28.2 insn_Make.B28 = true := by kernel_rfl
set_option maxHeartbeats 8000000 in
set_option maxRecDepth 100000 in
theorem insn_Make.calls (k : Nat) (a0_0 : Int) (a0_1 : Int) (a0_2 : Int) (a0_3 : Bool) (a0_4 : Bool) (a1_0 : Int) (a1_1 : Int) (a1_2 : Int) (a1_3 : Int) (a1_4 : Int) (r1 : Int) (r2 : Int) (r3 : Int) (r4 : Int) (r5 : Int) (r6 : Int) (w : World) (hrG2 : Kd.C (Kd.int .i64) w (some ⟨2, 0, none⟩) gl2.length gl2) (h : insn_Make.f k a0_0 a0_1 a0_2 a0_3 a0_4 a1_0 a1_1 a1_2 a1_3 a1_4 = some (r1, r2, r3, r4, r5, r6)) :
  Calls Tryd.prog 40 #[.agg #[.int .i64 a0_0, .int .i64 a0_1, .int .i64 a0_2, .bool a0_3, .bool a0_4], .agg #[.int .u8 a1_0, .int .u8 a1_1, .int .u8 a1_2, .int .i16 a1_3, .int .i32 a1_4]] w fun e w' => e = .returned (.tuple #[.agg #[.int .u8 r1, .int .u8 r2, .int .u8 r3, .int .i16 r4, .int .i32 r5], .int .i64 r6]) ∧ Below w.heap.size w w' := by
 have hu49 := Tryd.underlying49
 have hu37 := Tryd.underlying37
 have HRG2 := Aside0.mk hrG2
 clear hrG2
 have HB := Aside0.mk (Below.refl w.heap.size w)
 have H : (if a0_4 = true then (insn_Make.j0 k 8 a0_0 a0_1 a0_2 a0_3 a0_4 a1_0 a1_1 a1_2 a1_3 a1_4) else (insn_Make.j0 k 0 a0_0 a0_1 a0_2 a0_3 a0_4 a1_0 a1_1 a1_2 a1_3 a1_4)) = some (r1, r2, r3, r4, r5, r6) := h
 clear h
 have HC3 := Aside0.mk H
 clear H
 go_enter Tryd.func40, Tryd.ntmps40
 go_upto_if 11 with (first | ((with_reducible refine gate_dst (N := 2) rfl ?_); refine sh_box 2 #[.int .i64 a0_0, .int .i64 a0_1, .int .i64 a0_2, .bool a0_3, .bool a0_4] 49 ?_; intro gb268 hg w4 hbox hb; have GE268 := sh_z (w := w) hg; replace HB := sh_b (w := w) hb; have BK268 := Aside0.mk (hbox); clear hb hbox hg) | ((with_reducible refine gate_dst (N := 3) rfl ?_); refine sh_box 3 #[.int .u8 a1_0, .int .u8 a1_1, .int .u8 a1_2, .int .i16 a1_3, .int .i32 a1_4] 37 ?_; intro gb269 hg w5 hbox hb; have GE269 := sh_z (w := w) hg; have NB268_269 := sh_n BK268 hg; have NB269_268 := sh_s NB268_269; replace BK268 := sh_k BK268 hb; replace HB := sh_b (w := w) hb; have BK269 := Aside0.mk (hbox); clear hb hbox hg) | ((with_reducible refine gate_dst (N := 4) rfl ?_); refine sh_box 4 #[.int .u8 0, .int .u8 0, .int .u8 0, .int .i16 0, .int .i32 0] 37 ?_; intro gb270 hg w6 hbox hb; have GE270 := sh_z (w := w) hg; have NB268_270 := sh_n BK268 hg; have NB269_270 := sh_n BK269 hg; have NB270_268 := sh_s NB268_270; have NB270_269 := sh_s NB269_270; replace BK268 := sh_k BK268 hb; replace BK269 := sh_k BK269 hb; replace HB := sh_b (w := w) hb; have BK270 := Aside0.mk (hbox); clear hb hbox hg; obtain ⟨hnb7, hnc7⟩ := nb_ NB268_269; obtain ⟨hnb8, hnc8⟩ := nb_ NB268_270; have hcz9 := blk_all5 BK268.out))
 (try simp only [Act.put, List.setIfInBounds_toArray, List.set_cons_zero, List.set_cons_succ])
 go_cut [6] (fun v6 wc => ∃ (kq : Nat) (x6_2 : Int), v6 = .int .u8 x6_2 ∧ Aside0 (insn_Make.j0 kq x6_2 a0_0 a0_1 a0_2 a0_3 a0_4 a1_0 a1_1 a1_2 a1_3 a1_4 = some (r1, r2, r3, r4, r5, r6)) ∧ Aside0 (kq ≤ k) ∧ Aside0 (wc.heap[gb268]? = some (.cells #[.int .i64 a0_0, .int .i64 a0_1, .int .i64 a0_2, .bool a0_3, .bool a0_4] 49 (0, 0))) ∧ Aside0 (wc.heap[gb269]? = some (.cells #[.int .u8 a1_0, .int .u8 a1_1, .int .u8 a1_2, .int .i16 a1_3, .int .i32 a1_4] 37 (0, 0))) ∧ Aside0 (wc.heap[gb270]? = some (.cells #[.int .u8 0, .int .u8 0, .int .u8 0, .int .i16 0, .int .i32 0] 37 (0, 0))) ∧ Aside0 (Below w.heap.size w wc))
 case first =>
  have H := HC3.out
  clear HC3
  by_cases c10 : a0_4 = true
  ·subst c10
   replace H := sh_t H
   have H' := Aside0.mk H
   clear H
   go_wp2
   go_meet
   case rel => exact ⟨_, (8), eq_now, H', ⟨by first | omega | exact Nat.le_refl _⟩, ⟨bk_now⟩, ⟨bk_now⟩, ⟨bk_now⟩, ⟨b_now⟩⟩
  ·replace c10 := Bool.eq_false_iff.mpr c10
   subst c10
   replace H := sh_f H
   have H' := Aside0.mk H
   clear H
   go_wp2
   go_meet
   case rel => exact ⟨_, (0), eq_now, H', ⟨by first | omega | exact Nat.le_refl _⟩, ⟨bk_now⟩, ⟨bk_now⟩, ⟨bk_now⟩, ⟨b_now⟩⟩
 case rest =>
  clear HC3
  clear hcz9
  obtain ⟨kq, x6_2, rfl, HA, HJ2, BK268, BK269, BK270, HB⟩ := hcut
  cases kq with
  | zero => exact absurd HA.out (by simp [insn_Make.j0])
  | succ kj2 =>
   have H := HA.out
   clear HA
   simp only [insn_Make.j0] at H
   have HC11 := Aside0.mk H
   clear H
   obtain ⟨hnb12, hnc12⟩ := nb_ NB268_269
   obtain ⟨hnb13, hnc13⟩ := nb_ NB268_270
   have hcz14 := blk_all5 BK268.out
   go_upto_block 0 with (fail)
   go_cut [] (fun wc => ∃ (kq : Nat) (x270000_10 : Int) (x270002_10 : Int) (x270004_10 : Int), Aside0 (insn_Make.j3 kq a0_0 a0_1 a0_2 a0_3 a0_4 x270000_10 a1_1 x270002_10 a1_3 x270004_10 = some (r1, r2, r3, r4, r5, r6)) ∧ Aside0 (kq ≤ kj2) ∧ Aside0 (wc.heap[gb268]? = some (.cells #[.int .i64 a0_0, .int .i64 a0_1, .int .i64 a0_2, .bool a0_3, .bool a0_4] 49 (0, 0))) ∧ Aside0 (wc.heap[gb269]? = some (.cells #[.int .u8 x270000_10, .int .u8 a1_1, .int .u8 x270002_10, .int .i16 a1_3, .int .i32 x270004_10] 37 (0, 0))) ∧ Aside0 (wc.heap[gb270]? = some (.cells #[.int .u8 0, .int .u8 0, .int .u8 0, .int .i16 0, .int .i32 0] 37 (0, 0))) ∧ Aside0 (Below w.heap.size w wc))
   case first =>
    have H := HC11.out
    clear HC11
    by_cases c15 : a0_0 = 1
    ·rw [if_pos c15] at H
     obtain ⟨c15b0, c15b1⟩ := eqT c15
     clear c15
     (first | rw [c15b0] | (simp only [i64_w, i32_w]; rw [c15b0]) | skip)
     by_cases c16 : a0_3 = true
     ·subst c16
      replace H := sh_t H
      have H' := Aside0.mk H
      clear H
      obtain ⟨hnb17, hnc17⟩ := nb_ NB268_269
      obtain ⟨hnb18, hnc18⟩ := nb_ NB268_270
      have hcz19 := blk_all5 BK268.out
      obtain ⟨hnb20, hnc20⟩ := nb_ NB269_270
      have hcz21 := blk_all5 BK269.out
      go_wp2
      go_meet
      case rel => exact ⟨_, (Go.bits .or .u8 (Go.bits .or .u8 (Go.bits .or .u8 ((((a0_1) % 256) * 16) % 256) x6_2) 4) 3), (a1_2), (a1_4), H', ⟨by have := HJ2.out; first | omega | exact Nat.le_refl _⟩, ⟨bk_now⟩, ⟨bk_now⟩, ⟨bk_now⟩, ⟨b_now⟩⟩
     ·replace c16 := Bool.eq_false_iff.mpr c16
      subst c16
      replace H := sh_f H
      have H' := Aside0.mk H
      clear H
      obtain ⟨hnb22, hnc22⟩ := nb_ NB268_269
      obtain ⟨hnb23, hnc23⟩ := nb_ NB268_270
      have hcz24 := blk_all5 BK268.out
      obtain ⟨hnb25, hnc25⟩ := nb_ NB269_270
      have hcz26 := blk_all5 BK269.out
      go_wp2
      go_meet
      case rel => exact ⟨_, (Go.bits .or .u8 (Go.bits .or .u8 ((((a0_1) % 256) * 16) % 256) x6_2) 4), (a1_2), (a1_4), H', ⟨by have := HJ2.out; first | omega | exact Nat.le_refl _⟩, ⟨bk_now⟩, ⟨bk_now⟩, ⟨bk_now⟩, ⟨b_now⟩⟩
    ·rw [if_neg c15] at H
     obtain ⟨c15b0, c15b1⟩ := eqF c15
     (first | rw [c15b0] | (simp only [i64_w, i32_w]; rw [c15b0]) | skip)
     by_cases c27 : a0_0 = 6
     ·rw [if_pos c27] at H
      obtain ⟨c27b0, c27b1⟩ := eqT c27
      clear c27
      by_cases c28 : a0_3 = true
      ·subst c28
       replace H := sh_t H
       have H' := Aside0.mk H
       clear H
       obtain ⟨hnb29, hnc29⟩ := nb_ NB268_269
       obtain ⟨hnb30, hnc30⟩ := nb_ NB268_270
       have hcz31 := blk_all5 BK268.out
       obtain ⟨hnb32, hnc32⟩ := nb_ NB269_270
       have hcz33 := blk_all5 BK269.out
       go_wp2
       go_meet
       case rel => exact ⟨_, (Go.bits .xor .u8 (Go.bits .or .u8 (Go.bits .or .u8 ((((a0_1) % 256) * 16) % 256) x6_2) 6) 3), (a1_2), (a1_4), H', ⟨by have := HJ2.out; first | omega | exact Nat.le_refl _⟩, ⟨bk_now⟩, ⟨bk_now⟩, ⟨bk_now⟩, ⟨b_now⟩⟩
      ·replace c28 := Bool.eq_false_iff.mpr c28
       subst c28
       replace H := sh_f H
       have H' := Aside0.mk H
       clear H
       obtain ⟨hnb34, hnc34⟩ := nb_ NB268_269
       obtain ⟨hnb35, hnc35⟩ := nb_ NB268_270
       have hcz36 := blk_all5 BK268.out
       obtain ⟨hnb37, hnc37⟩ := nb_ NB269_270
       have hcz38 := blk_all5 BK269.out
       go_wp2
       go_meet
       case rel => exact ⟨_, (Go.bits .or .u8 (Go.bits .or .u8 ((((a0_1) % 256) * 16) % 256) x6_2) 6), (a1_2), (a1_4), H', ⟨by have := HJ2.out; first | omega | exact Nat.le_refl _⟩, ⟨bk_now⟩, ⟨bk_now⟩, ⟨bk_now⟩, ⟨b_now⟩⟩
     ·rw [if_neg c27] at H
      obtain ⟨c27b0, c27b1⟩ := eqF c27
      by_cases c39 : a0_0 = 2
      ·rw [if_pos c39] at H
       obtain ⟨c39b0, c39b1⟩ := eqT c39
       clear c39
       have H' := Aside0.mk H
       clear H
       obtain ⟨hnb40, hnc40⟩ := nb_ NB269_268
       obtain ⟨hnb41, hnc41⟩ := nb_ NB269_270
       have hcz42 := blk_all5 BK269.out
       obtain ⟨hnb43, hnc43⟩ := nb_ NB268_270
       have hcz44 := blk_all5 BK268.out
       go_wp2
       go_meet
       case rel => exact ⟨_, (215), (a1_2), (wrap32 (wrap64 (8 * (Go.bits .and .i64 a0_2 15)))), H', ⟨by have := HJ2.out; first | omega | exact Nat.le_refl _⟩, ⟨bk_now⟩, ⟨bk_now⟩, ⟨bk_now⟩, ⟨b_now⟩⟩
      ·rw [if_neg c39] at H
       obtain ⟨c39b0, c39b1⟩ := eqF c39
       have HC45 := Aside0.mk H
       clear H
       go_upto_if 72 with (fail)
       go_cut [72] (fun v72 wc => ∃ (kq : Nat) (x72_44 : Bool), v72 = .bool x72_44 ∧ Aside0 (insn_Make.j1 kq x72_44 a0_0 a0_1 a0_2 a0_3 a0_4 a1_0 a1_1 a1_2 a1_3 a1_4 = some (r1, r2, r3, r4, r5, r6)) ∧ Aside0 (kq ≤ kj2) ∧ Aside0 (wc.heap[gb268]? = some (.cells #[.int .i64 a0_0, .int .i64 a0_1, .int .i64 a0_2, .bool a0_3, .bool a0_4] 49 (0, 0))) ∧ Aside0 (wc.heap[gb269]? = some (.cells #[.int .u8 a1_0, .int .u8 a1_1, .int .u8 a1_2, .int .i16 a1_3, .int .i32 a1_4] 37 (0, 0))) ∧ Aside0 (wc.heap[gb270]? = some (.cells #[.int .u8 0, .int .u8 0, .int .u8 0, .int .i16 0, .int .i32 0] 37 (0, 0))) ∧ Aside0 (Below w.heap.size w wc))
       case first =>
        have H := HC45.out
        clear HC45
        by_cases c46 : a0_0 = 3
        ·rw [if_pos c46] at H
         obtain ⟨c46b0, c46b1⟩ := eqT c46
         clear c46
         (first | rw [c46b0] | (simp only [i64_w, i32_w]; rw [c46b0]) | skip)
         have H' := Aside0.mk H
         clear H
         go_wp2
         go_meet
         case rel => exact ⟨_, ((a0_0 == 3)), eq_now, H', ⟨by have := HJ2.out; first | omega | exact Nat.le_refl _⟩, ⟨bk_now⟩, ⟨bk_now⟩, ⟨bk_now⟩, ⟨b_now⟩⟩
        ·rw [if_neg c46] at H
         obtain ⟨c46b0, c46b1⟩ := eqF c46
         (first | rw [c46b0] | (simp only [i64_w, i32_w]; rw [c46b0]) | skip)
         by_cases c47 : a0_0 = 4
         ·rw [if_pos c47] at H
          obtain ⟨c47b0, c47b1⟩ := eqT c47
          clear c47
          have H' := Aside0.mk H
          clear H
          go_wp2
          go_meet
          case rel => exact ⟨_, ((a0_0 == 4)), eq_now, H', ⟨by have := HJ2.out; first | omega | exact Nat.le_refl _⟩, ⟨bk_now⟩, ⟨bk_now⟩, ⟨bk_now⟩, ⟨b_now⟩⟩
         ·rw [if_neg c47] at H
          obtain ⟨c47b0, c47b1⟩ := eqF c47
          have H' := Aside0.mk H
          clear H
          go_wp2
          go_meet
          case rel => exact ⟨_, ((a0_0 == 5)), eq_now, H', ⟨by have := HJ2.out; first | omega | exact Nat.le_refl _⟩, ⟨bk_now⟩, ⟨bk_now⟩, ⟨bk_now⟩, ⟨b_now⟩⟩
       case rest =>
        clear HC45
        clear c15 c15b0 c15b1 c27 c27b0 c27b1 c39 c39b0 c39b1 hcz14
        obtain ⟨kq, x72_44, rfl, HA, HJ44, BK268, BK269, BK270, HB⟩ := hcut
        cases kq with
        | zero => exact absurd HA.out (by simp [insn_Make.j1])
        | succ kj44 =>
         have H := HA.out
         clear HA
         simp only [insn_Make.j1] at H
         by_cases c48 : x72_44 = true
         ·subst c48
          replace H := sh_t H
          by_cases c49 : 0 ≤ a0_0
          ·rw [if_pos c49] at H
           have c49b0 : decide (0 ≤ a0_0) = true := decide_eq_true c49
           clear c49
           by_cases c50 : a0_0 < 6
           ·rw [if_pos c50] at H
            have c50b0 : decide (a0_0 < 6) = true := decide_eq_true c50
            clear c50
            obtain ⟨i271_, hi271_, _⟩ := Option.map_eq_some_iff.1 (show (Tryd.prog.info? 5).map (fun i => i.size) = some 1 by kernel_rfl)
            have ix271 : ∀ W_ : World, (Instr.index 118 (.agg #[.int .u8 0, .int .u8 0, .int .u8 0, .int .u8 1, .int .u8 3, .int .u8 2]) (.int .i64 a0_0)).run Tryd.prog W_ = .ok (.int .u8 (rdOf (0 : Int) ([0, 0, 0, 1, 3, 2] : List Int) a0_0)) W_ := fun W_ => run_index_enc (Value.int .u8) (0 : Int) ([0, 0, 0, 1, 3, 2] : List Int) a0_0 W_ Tryd.underlying118 (fun W_ => by kernel_rfl) hi271_ (by kernel_rfl) (by first | omega | exact od_) (by first | omega | exact od_) rfl
            clear hi271_
            have H' := Aside0.mk H
            clear H
            obtain ⟨hnb51, hnc51⟩ := nb_ NB268_269
            obtain ⟨hnb52, hnc52⟩ := nb_ NB268_270
            have hcz53 := blk_all5 BK268.out
            obtain ⟨hnb54, hnc54⟩ := nb_ NB269_270
            have hcz55 := blk_all5 BK269.out
            go_wp2
            go_loopg [7] kj44 (fun kq v7 w' => ∃ (x7_3 : Int) (x270000_3 : Int), v7 = .int .i64 x7_3 ∧ Aside0 (insn_Make.l0 kq x7_3 a0_0 a0_1 a0_2 a0_3 a0_4 x270000_3 a1_1 a1_2 a1_3 a1_4 = some (r1, r2, r3, r4, r5, r6)) ∧ Aside0 (kq ≤ kj44) ∧ Aside0 (w'.heap[gb268]? = some (.cells #[.int .i64 a0_0, .int .i64 a0_1, .int .i64 a0_2, .bool a0_3, .bool a0_4] 49 (0, 0))) ∧ Aside0 (w'.heap[gb269]? = some (.cells #[.int .u8 x270000_3, .int .u8 a1_1, .int .u8 a1_2, .int .i16 a1_3, .int .i32 a1_4] 37 (0, 0))) ∧ Aside0 (w'.heap[gb270]? = some (.cells #[.int .u8 0, .int .u8 0, .int .u8 0, .int .i16 0, .int .i32 0] 37 (0, 0))) ∧ Aside0 (Below w.heap.size w w'))
            case atStart => exact ⟨(0), (Go.bits .or .u8 96 (rdOf (0 : Int) ([0, 0, 0, 1, 3, 2] : List Int) a0_0)), eq_now, H', ⟨Nat.le_refl _⟩, ⟨bk_now⟩, ⟨bk_now⟩, ⟨bk_now⟩, ⟨b_now⟩⟩
            case round =>
             clear H'
             clear c49b0 c50b0 hcz53 hcz55
             obtain ⟨x7_3, x270000_3, rfl, HA, HK3, BK268, BK269, BK270, HB⟩ := hrel
             cases gk with
             | zero => exact absurd HA.out (by simp [insn_Make.l0])
             | succ k3 =>
              have H := HA.out
              clear HA
              simp only [insn_Make.l0] at H
              by_cases c56 : x7_3 < 4
              ·rw [if_pos c56] at H
               have c56b0 : decide (x7_3 < 4) = true := decide_eq_true c56
               clear c56
               by_cases c57 : 0 ≤ x7_3
               ·rw [if_pos c57] at H
                have c57b0 : decide (0 ≤ x7_3) = true := decide_eq_true c57
                clear c57
                by_cases c58 : (rd gl2 x7_3) = a0_2
                ·rw [if_pos c58] at H
                 obtain ⟨c58b0, c58b1⟩ := eqT c58
                 clear c58
                 have H' := Aside0.mk H
                 clear H
                 try go_wp2
                 have n0_ := Aside0.mk (blk_drew BK268.out)
                 have n1_ := Aside0.mk (blk_drew BK269.out)
                 have n2_ := Aside0.mk (blk_drew BK270.out)
                 have n3_ := Aside0.mk (below_drew1 HB.out)
                 clear BK268
                 clear BK269
                 clear BK270
                 clear HB
                 have BK268 := n0_
                 have BK269 := n1_
                 have BK270 := n2_
                 have HB := n3_
                 clear n0_ n1_ n2_ n3_
                 have p272 : 0 ≤ (x7_3 : Int) := od_
                 have q272 : x7_3 < (gl2.length : Int) := od_
                 have ql272 : ((x7_3 : Int) < (4 : Int)) = True := eq_true (od_)
                 obtain ⟨ad272, e272, hx272_0⟩ := Kd.at_int HRG2.out x7_3 p272 q272
                 have hw272_0 := hx272_0
                 obtain rfl : (⟨2, 0, none⟩ : Addr) = ad272 := (by injection e272)
                 (first | simp only [add_plain] at hx272_0 | simp only [add_at] at hx272_0 | simp only [Addr.add, Nat.zero_add] at hx272_0 | skip)
                 replace hx272_0 := (HB.out.cell (World.block_lt_of_cell? w _ hx272_0)).trans hx272_0
                 replace p272 := eq_true p272
                 replace q272 := eq_true q272
                 refine start_ (n := 6) (S := fun w' => w'.cell? ⟨gb268, 0, none⟩ = some (.int .i64 a0_0) ∧ w'.cell? ⟨gb268, 1, none⟩ = some (.int .i64 a0_1) ∧ w'.cell? ⟨gb268, 2, none⟩ = some (.int .i64 a0_2) ∧ w'.cell? ⟨gb268, 3, none⟩ = some (.bool a0_3) ∧ w'.cell? ⟨gb268, 4, none⟩ = some (.bool a0_4) ∧ w'.cell? ((⟨2, 0, none⟩ : Addr).add (x7_3).toNat) = some (.int .i64 (rd gl2 x7_3))) (ds := []) (fl 0 6) (by kernel_rfl) rfl rfl ⟨(blk_cell BK268.out 0).trans rfl, (blk_cell BK268.out 1).trans rfl, (blk_cell BK268.out 2).trans rfl, (blk_cell BK268.out 3).trans rfl, (blk_cell BK268.out 4).trans rfl, ((HB.out.cell (World.block_lt_of_cell? w _ hw272_0)).trans hw272_0)⟩ (fun hHeld => ?_)
                 generalize wr.drew = w59 at BK268 BK269 BK270 HB hx272_0 hHeld ⊢
                 refine pure_ (i := 0) (N := some 86) (v := ?_) (a' := ?_) (fl 1 5) rfl rfl (by kernel_rfl) (fun _ _ _ h => h) (Or.inl ⟨by rfl, ?_⟩) ?_ ?_
                 rotate_left; exact ga_; rotate_left; exact gb_
                 refine pure_ (i := 1) (N := some 87) (v := ?_) (a' := ?_) (fl 2 4) rfl rfl (by kernel_rfl) (fun _ _ _ h => h) (Or.inl ⟨by rfl, ?_⟩) ?_ ?_
                 rotate_left; exact ga_; rotate_left; exact gb_
                 refine pure_ (i := 3) (N := some 89) (v := ?_) (a' := ?_) (fm 6 11) rfl rfl (by kernel_rfl) (fun _ _ _ h => h) (Or.inl ⟨by rfl, ?_⟩) ?_ ?_
                 rotate_left; exact ga_; rotate_left; exact gb_
                 refine take_ (i := 2) (N := some 88) (v := ?_) (a' := ?_) (fl 4 2) rfl rfl (by kernel_rfl) (fun _ _ _ h => h) (Or.inl ⟨by rfl, ?_⟩) hHeld ?_ ?_
                 rotate_left
                 ·rintro w' ⟨s0, s1, s2, s3, s4, s5⟩
                  first | (go_simp; with_reducible rfl) | (simp only [add_plain, Nat.zero_add] at s5; go_simp; with_reducible rfl)
                 rotate_left; exact gb_
                 refine take_ (i := 4) (N := some 90) (v := ?_) (a' := ?_) (fl 5 1) rfl rfl (by kernel_rfl) (fun _ _ _ h => h) (Or.inl ⟨by rfl, ?_⟩) hHeld ?_ ?_
                 rotate_left
                 ·rintro w' ⟨s0, s1, s2, s3, s4, s5⟩
                  first | (go_simp; with_reducible rfl) | (simp only [add_plain, Nat.zero_add] at s5; go_simp; with_reducible rfl)
                 rotate_left; exact gb_
                 refine pure_ (i := 5) (N := some 91) (v := ?_) (a' := ?_) (fl 6 0) rfl rfl (by kernel_rfl) (fun _ _ _ h => h) (Or.inl ⟨by rfl, ?_⟩) ?_ ?_
                 rotate_left; exact ga_; rotate_left; exact gb_
                 refine done_ (by kernel_rfl) ?_
                 obtain ⟨hnb60, hnc60⟩ := nb_ NB269_268
                 obtain ⟨hnb61, hnc61⟩ := nb_ NB269_270
                 have hcz62 := blk_all5 BK269.out
                 try go_wp2
                 go_roundg k3
                 case measure => have := HJ2.out; have := HJ44.out; have := HK3.out; omega
                 case rel => exact ⟨(wrap64 (x7_3 + 1)), (Go.bits .or .u8 x270000_3 ((((x7_3) % 256) * 8) % 256)), eq_now, H', ⟨by have := HJ2.out; have := HJ44.out; have := HK3.out; omega⟩, ⟨bk_now⟩, ⟨bk_now⟩, ⟨bk_now⟩, ⟨b_now⟩⟩
                ·rw [if_neg c58] at H
                 obtain ⟨c58b0, c58b1⟩ := eqF c58
                 have H' := Aside0.mk H
                 clear H
                 try go_wp2
                 have n0_ := Aside0.mk (blk_drew BK268.out)
                 have n1_ := Aside0.mk (blk_drew BK269.out)
                 have n2_ := Aside0.mk (blk_drew BK270.out)
                 have n3_ := Aside0.mk (below_drew1 HB.out)
                 clear BK268
                 clear BK269
                 clear BK270
                 clear HB
                 have BK268 := n0_
                 have BK269 := n1_
                 have BK270 := n2_
                 have HB := n3_
                 clear n0_ n1_ n2_ n3_
                 have p272 : 0 ≤ (x7_3 : Int) := od_
                 have q272 : x7_3 < (gl2.length : Int) := od_
                 have ql272 : ((x7_3 : Int) < (4 : Int)) = True := eq_true (od_)
                 obtain ⟨ad272, e272, hx272_0⟩ := Kd.at_int HRG2.out x7_3 p272 q272
                 have hw272_0 := hx272_0
                 obtain rfl : (⟨2, 0, none⟩ : Addr) = ad272 := (by injection e272)
                 (first | simp only [add_plain] at hx272_0 | simp only [add_at] at hx272_0 | simp only [Addr.add, Nat.zero_add] at hx272_0 | skip)
                 replace hx272_0 := (HB.out.cell (World.block_lt_of_cell? w _ hx272_0)).trans hx272_0
                 replace p272 := eq_true p272
                 replace q272 := eq_true q272
                 refine start_ (n := 6) (S := fun w' => w'.cell? ⟨gb268, 0, none⟩ = some (.int .i64 a0_0) ∧ w'.cell? ⟨gb268, 1, none⟩ = some (.int .i64 a0_1) ∧ w'.cell? ⟨gb268, 2, none⟩ = some (.int .i64 a0_2) ∧ w'.cell? ⟨gb268, 3, none⟩ = some (.bool a0_3) ∧ w'.cell? ⟨gb268, 4, none⟩ = some (.bool a0_4) ∧ w'.cell? ((⟨2, 0, none⟩ : Addr).add (x7_3).toNat) = some (.int .i64 (rd gl2 x7_3))) (ds := []) (fl 0 6) (by kernel_rfl) rfl rfl ⟨(blk_cell BK268.out 0).trans rfl, (blk_cell BK268.out 1).trans rfl, (blk_cell BK268.out 2).trans rfl, (blk_cell BK268.out 3).trans rfl, (blk_cell BK268.out 4).trans rfl, ((HB.out.cell (World.block_lt_of_cell? w _ hw272_0)).trans hw272_0)⟩ (fun hHeld => ?_)
                 generalize wr.drew = w63 at BK268 BK269 BK270 HB hx272_0 hHeld ⊢
                 refine pure_ (i := 0) (N := some 86) (v := ?_) (a' := ?_) (fl 1 5) rfl rfl (by kernel_rfl) (fun _ _ _ h => h) (Or.inl ⟨by rfl, ?_⟩) ?_ ?_
                 rotate_left; exact ga_; rotate_left; exact gb_
                 refine pure_ (i := 1) (N := some 87) (v := ?_) (a' := ?_) (fl 2 4) rfl rfl (by kernel_rfl) (fun _ _ _ h => h) (Or.inl ⟨by rfl, ?_⟩) ?_ ?_
                 rotate_left; exact ga_; rotate_left; exact gb_
                 refine pure_ (i := 3) (N := some 89) (v := ?_) (a' := ?_) (fm 6 11) rfl rfl (by kernel_rfl) (fun _ _ _ h => h) (Or.inl ⟨by rfl, ?_⟩) ?_ ?_
                 rotate_left; exact ga_; rotate_left; exact gb_
                 refine take_ (i := 2) (N := some 88) (v := ?_) (a' := ?_) (fl 4 2) rfl rfl (by kernel_rfl) (fun _ _ _ h => h) (Or.inl ⟨by rfl, ?_⟩) hHeld ?_ ?_
                 rotate_left
                 ·rintro w' ⟨s0, s1, s2, s3, s4, s5⟩
                  first | (go_simp; with_reducible rfl) | (simp only [add_plain, Nat.zero_add] at s5; go_simp; with_reducible rfl)
                 rotate_left; exact gb_
                 refine take_ (i := 4) (N := some 90) (v := ?_) (a' := ?_) (fl 5 1) rfl rfl (by kernel_rfl) (fun _ _ _ h => h) (Or.inl ⟨by rfl, ?_⟩) hHeld ?_ ?_
                 rotate_left
                 ·rintro w' ⟨s0, s1, s2, s3, s4, s5⟩
                  first | (go_simp; with_reducible rfl) | (simp only [add_plain, Nat.zero_add] at s5; go_simp; with_reducible rfl)
                 rotate_left; exact gb_
                 refine pure_ (i := 5) (N := some 91) (v := ?_) (a' := ?_) (fl 6 0) rfl rfl (by kernel_rfl) (fun _ _ _ h => h) (Or.inl ⟨by rfl, ?_⟩) ?_ ?_
                 rotate_left; exact ga_; rotate_left; exact gb_
                 refine done_ (by kernel_rfl) ?_
                 try go_wp2
                 go_roundg k3
                 case measure => have := HJ2.out; have := HJ44.out; have := HK3.out; omega
                 case rel => exact ⟨(wrap64 (x7_3 + 1)), (x270000_3), eq_now, H', ⟨by have := HJ2.out; have := HJ44.out; have := HK3.out; omega⟩, ⟨bk_now⟩, ⟨bk_now⟩, ⟨bk_now⟩, ⟨b_now⟩⟩
               ·rw [if_neg c57] at H
                exact absurd H (by simp)
              ·rw [if_neg c56] at H
               have c56b0 : decide (x7_3 < 4) = false := decide_eq_false c56
               clear c56
               have H' := Aside0.mk H
               clear H
               go_wp2
               go_meet
               case rel => exact ⟨_, (x270000_3), (a1_2), (a1_4), H', ⟨by have := HJ2.out; have := HJ44.out; have := HK3.out; first | omega | exact Nat.le_refl _⟩, ⟨bk_now⟩, ⟨bk_now⟩, ⟨bk_now⟩, ⟨b_now⟩⟩
           ·rw [if_neg c50] at H
            exact absurd H (by simp)
          ·rw [if_neg c49] at H
           exact absurd H (by simp)
         ·replace c48 := Bool.eq_false_iff.mpr c48
          subst c48
          replace H := sh_f H
          obtain ⟨ji64, hji64⟩ : ∃ j_ : Int, (mn a0_0 11) = j_ := ⟨_, rfl⟩
          replace H : (if 0 ≤ (mx 0 (ji64)) then (if (mx 0 (ji64)) < 12 then (if a0_0 ≥ 10 then (insn_Make.j3 kj44 a0_0 a0_1 a0_2 a0_3 a0_4 (rdOf (0 : Int) ([0, 0, 0, 0, 0, 0, 0, 5, 133, 149, 24, 24] : List Int) (mx 0 (ji64))) a1_1 (((mx 0 (mn a0_0 12)) - 10) % 256) a1_3 a1_4) else (insn_Make.j3 kj44 a0_0 a0_1 a0_2 a0_3 a0_4 (rdOf (0 : Int) ([0, 0, 0, 0, 0, 0, 0, 5, 133, 149, 24, 24] : List Int) (mx 0 (ji64))) a1_1 a1_2 a1_3 a1_4)) else (none)) else (none)) = some (r1, r2, r3, r4, r5, r6) := by first | (rw [hji64] at H; exact H) | (simp only [hji64] at H ⊢; exact H)
          have hji64_ : (if 11 < a0_0 then 11 else a0_0) = ji64 := hji64
          obtain ⟨ji65, hji65⟩ : ∃ j_ : Int, (mx 0 (ji64)) = j_ := ⟨_, rfl⟩
          replace H : (if 0 ≤ (ji65) then (if (ji65) < 12 then (if a0_0 ≥ 10 then (insn_Make.j3 kj44 a0_0 a0_1 a0_2 a0_3 a0_4 (rdOf (0 : Int) ([0, 0, 0, 0, 0, 0, 0, 5, 133, 149, 24, 24] : List Int) (ji65)) a1_1 (((mx 0 (mn a0_0 12)) - 10) % 256) a1_3 a1_4) else (insn_Make.j3 kj44 a0_0 a0_1 a0_2 a0_3 a0_4 (rdOf (0 : Int) ([0, 0, 0, 0, 0, 0, 0, 5, 133, 149, 24, 24] : List Int) (ji65)) a1_1 a1_2 a1_3 a1_4)) else (none)) else (none)) = some (r1, r2, r3, r4, r5, r6) := by first | (rw [hji65] at H; exact H) | (simp only [hji65] at H ⊢; exact H)
          have hji65_ : (if 0 < (ji64) then (ji64) else 0) = ji65 := hji65
          by_cases c66 : 0 ≤ (ji65)
          ·rw [if_pos c66] at H
           have c66b0 : decide (0 ≤ (ji65)) = true := decide_eq_true c66
           clear c66
           by_cases c67 : (ji65) < 12
           ·rw [if_pos c67] at H
            have c67b0 : decide ((ji65) < 12) = true := decide_eq_true c67
            clear c67
            obtain ⟨i273_, hi273_, _⟩ := Option.map_eq_some_iff.1 (show (Tryd.prog.info? 5).map (fun i => i.size) = some 1 by kernel_rfl)
            have ix273 : ∀ W_ : World, (Instr.index 119 (.agg #[.int .u8 0, .int .u8 0, .int .u8 0, .int .u8 0, .int .u8 0, .int .u8 0, .int .u8 0, .int .u8 5, .int .u8 133, .int .u8 149, .int .u8 24, .int .u8 24]) (.int .i64 ji65)).run Tryd.prog W_ = .ok (.int .u8 (rdOf (0 : Int) ([0, 0, 0, 0, 0, 0, 0, 5, 133, 149, 24, 24] : List Int) ji65)) W_ := fun W_ => run_index_enc (Value.int .u8) (0 : Int) ([0, 0, 0, 0, 0, 0, 0, 5, 133, 149, 24, 24] : List Int) ji65 W_ Tryd.underlying119 (fun W_ => by kernel_rfl) hi273_ (by kernel_rfl) (by first | omega | exact od_) (by first | omega | exact od_) rfl
            clear hi273_
            by_cases c68 : a0_0 ≥ 10
            ·rw [if_pos c68] at H
             have c68b0 : decide (10 ≤ a0_0) = true := decide_eq_true c68
             clear c68
             obtain ⟨ji69, hji69⟩ : ∃ j_ : Int, (mn a0_0 12) = j_ := ⟨_, rfl⟩
             replace H : (insn_Make.j3 kj44 a0_0 a0_1 a0_2 a0_3 a0_4 (rdOf (0 : Int) ([0, 0, 0, 0, 0, 0, 0, 5, 133, 149, 24, 24] : List Int) (ji65)) a1_1 (((mx 0 (ji69)) - 10) % 256) a1_3 a1_4) = some (r1, r2, r3, r4, r5, r6) := by first | (rw [hji69] at H; exact H) | (simp only [hji69] at H ⊢; exact H)
             have hji69_ : (if 12 < a0_0 then 12 else a0_0) = ji69 := hji69
             obtain ⟨ji70, hji70⟩ : ∃ j_ : Int, (mx 0 (ji69)) = j_ := ⟨_, rfl⟩
             replace H : (insn_Make.j3 kj44 a0_0 a0_1 a0_2 a0_3 a0_4 (rdOf (0 : Int) ([0, 0, 0, 0, 0, 0, 0, 5, 133, 149, 24, 24] : List Int) (ji65)) a1_1 (((ji70) - 10) % 256) a1_3 a1_4) = some (r1, r2, r3, r4, r5, r6) := by first | (rw [hji70] at H; exact H) | (simp only [hji70] at H ⊢; exact H)
             have hji70_ : (if 0 < (ji69) then (ji69) else 0) = ji70 := hji70
             have H' := Aside0.mk H
             clear H
             obtain ⟨hnb71, hnc71⟩ := nb_ NB268_269
             obtain ⟨hnb72, hnc72⟩ := nb_ NB268_270
             have hcz73 := blk_all5 BK268.out
             obtain ⟨hnb74, hnc74⟩ := nb_ NB269_270
             have hcz75 := blk_all5 BK269.out
             go_wp2
             go_meet
             case rel => exact ⟨_, (rdOf (0 : Int) ([0, 0, 0, 0, 0, 0, 0, 5, 133, 149, 24, 24] : List Int) (ji65)), (((ji70) - 10) % 256), (a1_4), H', ⟨by have := HJ2.out; have := HJ44.out; first | omega | exact Nat.le_refl _⟩, ⟨bk_now⟩, ⟨by (with_reducible repeat (first | refine blk_drewN ?_ _ | refine blk_drew ?_ | refine blk_alloc ?_ _)); refine blk_put (cs := #[.int .u8 (rdOf (0 : Int) ([0, 0, 0, 0, 0, 0, 0, 5, 133, 149, 24, 24] : List Int) (ji65)), .int .u8 a1_1, .int .u8 a1_2, .int .i16 a1_3, .int .i32 a1_4]) ?_ 2 _ rfl; (with_reducible repeat (first | refine blk_drewN ?_ _ | refine blk_drew ?_ | refine blk_alloc ?_ _)); refine blk_put (cs := #[.int .u8 a1_0, .int .u8 a1_1, .int .u8 a1_2, .int .i16 a1_3, .int .i32 a1_4]) ?_ 0 _ rfl; (with_reducible repeat (first | refine blk_drewN ?_ _ | refine blk_drew ?_ | refine blk_alloc ?_ _)); exact BK269.out⟩, ⟨bk_now⟩, ⟨b_now⟩⟩
            ·rw [if_neg c68] at H
             have c68b0 : decide (10 ≤ a0_0) = false := decide_eq_false c68
             clear c68
             have H' := Aside0.mk H
             clear H
             obtain ⟨hnb76, hnc76⟩ := nb_ NB268_269
             obtain ⟨hnb77, hnc77⟩ := nb_ NB268_270
             have hcz78 := blk_all5 BK268.out
             obtain ⟨hnb79, hnc79⟩ := nb_ NB269_270
             have hcz80 := blk_all5 BK269.out
             go_wp2
             go_meet
             case rel => exact ⟨_, (rdOf (0 : Int) ([0, 0, 0, 0, 0, 0, 0, 5, 133, 149, 24, 24] : List Int) (ji65)), (a1_2), (a1_4), H', ⟨by have := HJ2.out; have := HJ44.out; first | omega | exact Nat.le_refl _⟩, ⟨bk_now⟩, ⟨bk_now⟩, ⟨bk_now⟩, ⟨b_now⟩⟩
           ·rw [if_neg c67] at H
            exact absurd H (by simp)
          ·rw [if_neg c66] at H
           exact absurd H (by simp)
   case rest =>
    clear HC11
    clear hcz14
    obtain ⟨kq, x270000_10, x270002_10, x270004_10, HA, HJ10, BK268, BK269, BK270, HB⟩ := hcut
    cases kq with
    | zero => exact absurd HA.out (by simp [insn_Make.j3])
    | succ kj10 =>
     have H := HA.out
     clear HA
     simp only [insn_Make.j3] at H
     have HC81 := Aside0.mk H
     clear H
     go_upto_region 28 with (fail)
     go_cut [107] (fun v107 wc => ∃ (kq : Nat) (x107_80 : Bool), v107 = .bool x107_80 ∧ Aside0 (insn_Make.j4 kq x107_80 x270000_10 a1_1 x270002_10 a1_3 x270004_10 = some (r1, r2, r3, r4, r5, r6)) ∧ Aside0 (kq ≤ kj10) ∧ Aside0 (wc.heap[gb268]? = some (.cells #[.int .i64 a0_0, .int .i64 a0_1, .int .i64 a0_2, .bool a0_3, .bool a0_4] 49 (0, 0))) ∧ Aside0 (wc.heap[gb269]? = some (.cells #[.int .u8 x270000_10, .int .u8 a1_1, .int .u8 x270002_10, .int .i16 a1_3, .int .i32 x270004_10] 37 (0, 0))) ∧ Aside0 (wc.heap[gb270]? = some (.cells #[.int .u8 0, .int .u8 0, .int .u8 0, .int .i16 0, .int .i32 0] 37 (0, 0))) ∧ Aside0 (Below w.heap.size w wc))
     case first =>
      have H := HC81.out
      clear HC81
      by_cases c82 : (a0_0 == 0 && (a0_1 == 0 && (a0_2 == 0 && (!a0_3 && (!a0_4))))) = true
      ·rw [if_pos c82] at H
       have c82b0 : (a0_0 == 0 && (a0_1 == 0 && (a0_2 == 0 && (!a0_3 && (!a0_4))))) = true := c82
       (try (have c82b1 : decide (a0_0 = 0 && (a0_1 == 0 && (a0_2 == 0 && (!a0_3 && (!a0_4))))) = true := by simpa using c82))
       (try (have c82b2 : (a0_0 == 0 && (a0_1 == 0 && (a0_2 == 0 && (!a0_3 && (!a0_4))))) = true := by simpa using c82))
       clear c82
       (first | rw [c82b0] | (simp only [i64_w, i32_w]; rw [c82b0]) | skip)
       have H' := Aside0.mk H
       clear H
       try go_wp2
       have n0_ := Aside0.mk (blk_drew BK268.out)
       have n1_ := Aside0.mk (blk_drew BK269.out)
       have n2_ := Aside0.mk (blk_drew BK270.out)
       have n3_ := Aside0.mk (below_drew1 HB.out)
       clear BK268
       clear BK269
       clear BK270
       clear HB
       have BK268 := n0_
       have BK269 := n1_
       have BK270 := n2_
       have HB := n3_
       clear n0_ n1_ n2_ n3_
       refine start_ (n := 9) (S := fun w' => w'.cell? ⟨gb268, 0, none⟩ = some (.int .i64 a0_0) ∧ w'.cell? ⟨gb268, 1, none⟩ = some (.int .i64 a0_1) ∧ w'.cell? ⟨gb268, 2, none⟩ = some (.int .i64 a0_2) ∧ w'.cell? ⟨gb268, 3, none⟩ = some (.bool a0_3) ∧ w'.cell? ⟨gb268, 4, none⟩ = some (.bool a0_4)) (ds := []) (fl 0 9) (by kernel_rfl) rfl rfl ⟨(blk_cell BK268.out 0).trans rfl, (blk_cell BK268.out 1).trans rfl, (blk_cell BK268.out 2).trans rfl, (blk_cell BK268.out 3).trans rfl, (blk_cell BK268.out 4).trans rfl⟩ (fun hHeld => ?_); refine with_tabW insn_Make.tab28 insn_Make.bits28 (fun HT_ HW_ => ?_)
       generalize wc.drew = w83 at BK268 BK269 BK270 HB hHeld ⊢
       refine pure_ (i := 1) (N := some 100) (v := ?_) (a' := ?_) (fm 9 2) rfl rfl (any_of HT_.out (by kernel_rfl)) (fun _ _ _ h => h) (Or.inl ⟨by rfl, ?_⟩) ?_ ?_
       rotate_left; exact ga_; rotate_left; exact gb_
       refine take_ (i := 0) (N := some 99) (v := ?_) (a' := ?_) (fl 2 7) rfl rfl (take_ofW HT_.out HW_.out (by kernel_rfl)) (fun _ _ _ h => h) (Or.inl ⟨by rfl, ?_⟩) hHeld ?_ ?_
       rotate_left
       ·rintro w' ⟨s0, s1, s2, s3, s4⟩
        go_simp
        with_reducible rfl
       rotate_left; exact gb_
       refine pure_ (i := 2) (N := some 101) (v := ?_) (a' := ?_) (fl 3 6) rfl rfl (any_of HT_.out (by kernel_rfl)) (fun _ _ _ h => h) (Or.inl ⟨by rfl, ?_⟩) ?_ ?_
       rotate_left; exact ga_; rotate_left; exact gb_
       refine pure_ (i := 3) (N := some 102) (v := ?_) (a' := ?_) (fl 4 5) rfl rfl (any_of HT_.out (by kernel_rfl)) (fun _ _ _ h => h) (Or.inl ⟨by rfl, ?_⟩) ?_ ?_
       rotate_left; exact ga_; rotate_left; exact gb_
       refine pure_ (i := 4) (N := some 103) (v := undef) (a' := ?_) (fl 5 4) rfl rfl (any_of HT_.out (by kernel_rfl)) (fun _ _ _ h => h) (Or.inr ⟨by rfl, rfl⟩) ?_ ?_
       rotate_left; exact gb_
       refine pure_ (i := 5) (N := some 104) (v := undef) (a' := ?_) (fl 6 3) rfl rfl (any_of HT_.out (by kernel_rfl)) (fun _ _ _ h => h) (Or.inr ⟨by rfl, rfl⟩) ?_ ?_
       rotate_left; exact gb_
       refine pure_ (i := 6) (N := some 105) (v := undef) (a' := ?_) (fl 7 2) rfl rfl (any_of HT_.out (by kernel_rfl)) (fun _ _ _ h => h) (Or.inr ⟨by rfl, rfl⟩) ?_ ?_
       rotate_left; exact gb_
       refine pure_ (i := 7) (N := some 106) (v := undef) (a' := ?_) (fl 8 1) rfl rfl (any_of HT_.out (by kernel_rfl)) (fun _ _ _ h => h) (Or.inr ⟨by rfl, rfl⟩) ?_ ?_
       rotate_left; exact gb_
       refine pure_ (i := 8) (N := some 107) (v := ?_) (a' := ?_) (fl 9 0) rfl rfl (any_of HT_.out (by kernel_rfl)) (fun _ _ _ h => h) (Or.inl ⟨by rfl, ?_⟩) ?_ ?_
       rotate_left; exact ga_; rotate_left; exact gb_
       refine done_ (done_of HT_.out (by kernel_rfl)) ?_
       try go_wp2
       go_meet
       case rel => exact ⟨_, (true), eq_now, H', ⟨by have := HJ2.out; have := HJ10.out; first | omega | exact Nat.le_refl _⟩, ⟨bk_now⟩, ⟨bk_now⟩, ⟨bk_now⟩, ⟨b_now⟩⟩
      ·rw [if_neg c82] at H
       have c82b0 : (a0_0 == 0 && (a0_1 == 0 && (a0_2 == 0 && (!a0_3 && (!a0_4))))) = false := by simpa using c82
       (try (have c82b1 : decide (a0_0 = 0 && (a0_1 == 0 && (a0_2 == 0 && (!a0_3 && (!a0_4))))) = false := by simpa using c82))
       (try (have c82b2 : (a0_0 == 0 && (a0_1 == 0 && (a0_2 == 0 && (!a0_3 && (!a0_4))))) = false := by simpa using c82))
       (try (have c82b3 : ¬ (a0_0 = 0 && (a0_1 == 0 && (a0_2 == 0 && (!a0_3 && (!a0_4))))) := by simpa using c82))
       clear c82
       (first | rw [c82b0] | (simp only [i64_w, i32_w]; rw [c82b0]) | skip)
       obtain ⟨⟨t274, t275, t276, t277, t278⟩, A84, H⟩ := bs_ H; try dsimp only at H
       have H' := Aside0.mk H
       clear H
       try go_wp2
       have n0_ := Aside0.mk (blk_drew BK268.out)
       have n1_ := Aside0.mk (blk_drew BK269.out)
       have n2_ := Aside0.mk (blk_drew BK270.out)
       have n3_ := Aside0.mk (below_drew1 HB.out)
       clear BK268
       clear BK269
       clear BK270
       clear HB
       have BK268 := n0_
       have BK269 := n1_
       have BK270 := n2_
       have HB := n3_
       clear n0_ n1_ n2_ n3_
       refine start_ (n := 9) (S := fun w' => w'.cell? ⟨gb268, 0, none⟩ = some (.int .i64 a0_0) ∧ w'.cell? ⟨gb268, 1, none⟩ = some (.int .i64 a0_1) ∧ w'.cell? ⟨gb268, 2, none⟩ = some (.int .i64 a0_2) ∧ w'.cell? ⟨gb268, 3, none⟩ = some (.bool a0_3) ∧ w'.cell? ⟨gb268, 4, none⟩ = some (.bool a0_4) ∧ w'.cell? ⟨gb269, 0, none⟩ = some (.int .u8 x270000_10) ∧ w'.cell? ⟨gb269, 1, none⟩ = some (.int .u8 a1_1) ∧ w'.cell? ⟨gb269, 2, none⟩ = some (.int .u8 x270002_10) ∧ w'.cell? ⟨gb269, 3, none⟩ = some (.int .i16 a1_3) ∧ w'.cell? ⟨gb269, 4, none⟩ = some (.int .i32 x270004_10)) (ds := []) (fl 0 9) (by kernel_rfl) rfl rfl ⟨(blk_cell BK268.out 0).trans rfl, (blk_cell BK268.out 1).trans rfl, (blk_cell BK268.out 2).trans rfl, (blk_cell BK268.out 3).trans rfl, (blk_cell BK268.out 4).trans rfl, (blk_cell BK269.out 0).trans rfl, (blk_cell BK269.out 1).trans rfl, (blk_cell BK269.out 2).trans rfl, (blk_cell BK269.out 3).trans rfl, (blk_cell BK269.out 4).trans rfl⟩ (fun hHeld => ?_); refine with_tabW insn_Make.tab28 insn_Make.bits28 (fun HT_ HW_ => ?_)
       generalize wc.drew = w85 at BK268 BK269 BK270 HB hHeld ⊢
       refine pure_ (i := 1) (N := some 100) (v := ?_) (a' := ?_) (fm 9 2) rfl rfl (any_of HT_.out (by kernel_rfl)) (fun _ _ _ h => h) (Or.inl ⟨by rfl, ?_⟩) ?_ ?_
       rotate_left; exact ga_; rotate_left; exact gb_
       refine take_ (i := 0) (N := some 99) (v := ?_) (a' := ?_) (fl 2 7) rfl rfl (take_ofW HT_.out HW_.out (by kernel_rfl)) (fun _ _ _ h => h) (Or.inl ⟨by rfl, ?_⟩) hHeld ?_ ?_
       rotate_left
       ·rintro w' ⟨s0, s1, s2, s3, s4, s5, s6, s7, s8, s9⟩
        go_simp
        with_reducible rfl
       rotate_left; exact gb_
       refine pure_ (i := 2) (N := some 101) (v := ?_) (a' := ?_) (fl 3 6) rfl rfl (any_of HT_.out (by kernel_rfl)) (fun _ _ _ h => h) (Or.inl ⟨by rfl, ?_⟩) ?_ ?_
       rotate_left; exact ga_; rotate_left; exact gb_
       refine pure_ (i := 3) (N := some 102) (v := ?_) (a' := ?_) (fl 4 5) rfl rfl (any_of HT_.out (by kernel_rfl)) (fun _ _ _ h => h) (Or.inl ⟨by rfl, ?_⟩) ?_ ?_
       rotate_left; exact ga_; rotate_left; exact gb_
       refine take_ (i := 4) (N := some 103) (v := ?_) (a' := ?_) (fl 5 4) rfl rfl (take_ofW HT_.out HW_.out (by kernel_rfl)) (fun _ _ _ h => h) (Or.inl ⟨by rfl, ?_⟩) hHeld ?_ ?_
       rotate_left
       ·rintro w' ⟨s0, s1, s2, s3, s4, s5, s6, s7, s8, s9⟩
        go_simp
        with_reducible rfl
       rotate_left; exact gb_
       refine take_ (i := 6) (N := some 105) (v := ?_) (a' := ?_) (fm 9 95) rfl rfl (take_ofW HT_.out HW_.out (by kernel_rfl)) (fun _ _ _ h => h) (Or.inl ⟨by rfl, ?_⟩) hHeld ?_ ?_
       rotate_left
       ·rintro w' ⟨s0, s1, s2, s3, s4, s5, s6, s7, s8, s9⟩
        go_simp
        with_reducible rfl
       rotate_left; exact gb_
       refine one_ (i := 5) (N := some 104) (fl 7 2) rfl rfl (one_of HT_.out (by kernel_rfl)) (by decide) (fun K hK => ?_)
       refine goes_ Tryd.func25 (by kernel_rfl) rfl #[.agg #[.int .u8 x270000_10, .int .u8 a1_1, .int .u8 x270002_10, .int .i16 a1_3, .int .i32 x270004_10]] (by rfl) rfl rfl (by (try simp only [List.map_toArray, List.map_cons, List.map_nil]); first | done | rfl | (simp only [List.length_drop, List.length_take]; rfl)) ?_
       with_reducible refine (insn_kind.calls kj10 x270000_10 a1_1 x270002_10 a1_3 x270004_10 t274 t275 t276 t277 t278 _ ?side1 A84.out).mono ?_
       (case side1 => repeat (first | exact (Kd.C_below HRG2.out HB.out) | (with_reducible refine Kd.C_alloc ?_ _) | (with_reducible refine Kd.C_drewN ?_ _) | (with_reducible refine Kd.C_drew ?_)))
       rintro e w86 ⟨rfl, hb⟩
       refine ⟨_, rfl, ?_⟩
       have n0_ := Aside0.mk (blk_below (g := gb268) (o := .cells #[.int .i64 a0_0, .int .i64 a0_1, .int .i64 a0_2, .bool a0_3, .bool a0_4] 49 (0, 0)) bk_now hb)
       have n1_ := Aside0.mk (blk_below (g := gb269) (o := .cells #[.int .u8 x270000_10, .int .u8 a1_1, .int .u8 x270002_10, .int .i16 a1_3, .int .i32 x270004_10] 37 (0, 0)) bk_now hb)
       have n2_ := Aside0.mk (blk_below (g := gb270) (o := .cells #[.int .u8 0, .int .u8 0, .int .u8 0, .int .i16 0, .int .i32 0] 37 (0, 0)) bk_now hb)
       have n3_ := Aside0.mk (below_step b_now hb)
       clear BK268
       clear BK269
       clear BK270
       clear HB
       have BK268 := n0_
       have BK269 := n1_
       have BK270 := n2_
       have HB := n3_
       clear n0_ n1_ n2_ n3_
       (try clear hb)
       (try clear hb2)
       (try clear hk)
       (try clear hi)
       refine hK.out _ _ ⟨(blk_cell BK268.out 0).trans rfl, (blk_cell BK268.out 1).trans rfl, (blk_cell BK268.out 2).trans rfl, (blk_cell BK268.out 3).trans rfl, (blk_cell BK268.out 4).trans rfl, (blk_cell BK269.out 0).trans rfl, (blk_cell BK269.out 1).trans rfl, (blk_cell BK269.out 2).trans rfl, (blk_cell BK269.out 3).trans rfl, (blk_cell BK269.out 4).trans rfl⟩ (fun hHeld => ?_)
       clear hK K
       refine norm_ (a' := ?_) ?_ ?_
       rotate_left
       ·show Act.put _ (some 104) _ = _
        simp only [Act.put, List.setIfInBounds_toArray, List.set_cons_zero, List.set_cons_succ, i64_w, i32_w]
        rfl
       refine pure_ (i := 7) (N := some 106) (v := ?_) (a' := ?_) (fl 8 1) rfl rfl (any_of HT_.out (by kernel_rfl)) (fun _ _ _ h => h) (Or.inl ⟨by rfl, ?_⟩) ?_ ?_
       rotate_left; exact ga_; rotate_left; exact gb_
       refine pure_ (i := 8) (N := some 107) (v := ?_) (a' := ?_) (fl 9 0) rfl rfl (any_of HT_.out (by kernel_rfl)) (fun _ _ _ h => h) (Or.inl ⟨by rfl, ?_⟩) ?_ ?_
       rotate_left; exact ga_; rotate_left; exact gb_
       refine done_ (done_of HT_.out (by kernel_rfl)) ?_
       try go_wp2
       go_meet
       case rel => exact ⟨_, ((!(t274 == a0_0) || (!(t275 == a0_1) || (!(t276 == a0_2) || (!(t277 == a0_3) || (!(t278 == a0_4))))))), eq_now, H', ⟨by have := HJ2.out; have := HJ10.out; first | omega | exact Nat.le_refl _⟩, ⟨bk_now⟩, ⟨bk_now⟩, ⟨bk_now⟩, ⟨b_now⟩⟩
     case rest =>
      clear HC81
      obtain ⟨kq, x107_80, rfl, HA, HJ80, BK268, BK269, BK270, HB⟩ := hcut
      cases kq with
      | zero => exact absurd HA.out (by simp [insn_Make.j4])
      | succ kj80 =>
       have H := HA.out
       clear HA
       simp only [insn_Make.j4] at H
       by_cases c87 : x107_80 = true
       ·subst c87
        replace H := sh_t H
        obtain ⟨rfl, rfl, rfl, rfl, rfl, rfl⟩ := pi6 H
        obtain ⟨hnb88, hnc88⟩ := nb_ NB270_268
        obtain ⟨hnb89, hnc89⟩ := nb_ NB270_269
        have hcz90 := blk_all5 BK270.out
        go_wp2
        refine bodyPost_ret (results_ct rfl _ _ gb270 37 #[.int .u8 0, .int .u8 0, .int .u8 0, .int .i16 0, .int .i32 0] (0, 0) _ rfl bk_now Tryd.underlying37 rfl (by kernel_rfl)) rfl ?_
        exact ⟨ret_now, b_now⟩
       ·replace c87 := Bool.eq_false_iff.mpr c87
        subst c87
        replace H := sh_f H
        obtain ⟨⟨t279, t280, t281, t282, t283, t284⟩, A91, H⟩ := bs_ H; try dsimp only at H
        by_cases c92 : t284 = 0
        ·rw [if_pos c92] at H
         obtain ⟨c92b0, c92b1⟩ := eqT c92
         clear c92
         obtain ⟨rfl, rfl, rfl, rfl, rfl, rfl⟩ := pi6 H
         obtain ⟨hnb93, hnc93⟩ := nb_ NB269_268
         obtain ⟨hnb94, hnc94⟩ := nb_ NB269_270
         have hcz95 := blk_all5 BK269.out
         go_wp2_with (first | ((with_reducible refine gate_callee (f := 14) rfl ?_); refine sh_call (some 111) Tryd.func14 #[.agg #[.int .u8 x270000_10, .int .u8 a1_1, .int .u8 x270002_10, .int .i16 a1_3, .int .i32 x270004_10]] ?_; (with_reducible refine (insn_Of.calls kj80 x270000_10 a1_1 x270002_10 a1_3 x270004_10 t279 t280 t281 t282 t283 t284 _ ?side1 A91.out).mono ?_); (case side1 => repeat (first | exact (Kd.C_below HRG2.out HB.out) | (with_reducible refine Kd.C_alloc ?_ _) | (with_reducible refine Kd.C_drewN ?_ _) | (with_reducible refine Kd.C_drew ?_))); rintro e w96 ⟨rfl, hb⟩; refine ⟨_, rfl, ?_⟩; replace BK268 := sh_k BK268 hb; replace BK269 := sh_k BK269 hb; replace BK270 := sh_k BK270 hb; replace HB := sh_b (w := w) hb; (try clear hb); (try clear hb2); (try clear hk); (try clear hi)) | ((with_reducible refine gate_dst (N := 8) rfl ?_); refine sh_box 8 #[.int .i64 0, .int .i64 0, .int .i64 0, .bool false, .bool false] 49 ?_; intro gb285 hg w97 hbox hb; have GE285 := sh_z (w := w) hg; have NB268_285 := sh_n BK268 hg; have NB269_285 := sh_n BK269 hg; have NB270_285 := sh_n BK270 hg; have NB285_268 := sh_s NB268_285; have NB285_269 := sh_s NB269_285; have NB285_270 := sh_s NB270_285; replace BK268 := sh_k BK268 hb; replace BK269 := sh_k BK269 hb; replace BK270 := sh_k BK270 hb; replace HB := sh_b (w := w) hb; have BK285 := Aside0.mk (hbox); clear hb hbox hg; obtain ⟨hnb98, hnc98⟩ := nb_ NB285_268; obtain ⟨hnb99, hnc99⟩ := nb_ NB285_269; obtain ⟨hnb100, hnc100⟩ := nb_ NB285_270; have hcz101 := blk_all5 BK285.out; have hcz102 := blk_all5 BK269.out; obtain ⟨hnb103, hnc103⟩ := nb_ NB270_268; have hcz104 := blk_all5 BK270.out))
         refine bodyPost_ret (results_ct rfl _ _ gb270 37 #[.int .u8 x270000_10, .int .u8 a1_1, .int .u8 x270002_10, .int .i16 a1_3, .int .i32 x270004_10] (0, 0) _ rfl bk_now Tryd.underlying37 rfl (by kernel_rfl)) rfl ?_
         exact ⟨ret_now, b_now⟩
        ·rw [if_neg c92] at H
         obtain ⟨c92b0, c92b1⟩ := eqF c92
         obtain ⟨rfl, rfl, rfl, rfl, rfl, rfl⟩ := pi6 H
         obtain ⟨hnb105, hnc105⟩ := nb_ NB269_268
         obtain ⟨hnb106, hnc106⟩ := nb_ NB269_270
         have hcz107 := blk_all5 BK269.out
         go_wp2_with (first | ((with_reducible refine gate_callee (f := 14) rfl ?_); refine sh_call (some 111) Tryd.func14 #[.agg #[.int .u8 x270000_10, .int .u8 a1_1, .int .u8 x270002_10, .int .i16 a1_3, .int .i32 x270004_10]] ?_; (with_reducible refine (insn_Of.calls kj80 x270000_10 a1_1 x270002_10 a1_3 x270004_10 t279 t280 t281 t282 t283 t284 _ ?side1 A91.out).mono ?_); (case side1 => repeat (first | exact (Kd.C_below HRG2.out HB.out) | (with_reducible refine Kd.C_alloc ?_ _) | (with_reducible refine Kd.C_drewN ?_ _) | (with_reducible refine Kd.C_drew ?_))); rintro e w108 ⟨rfl, hb⟩; refine ⟨_, rfl, ?_⟩; replace BK268 := sh_k BK268 hb; replace BK269 := sh_k BK269 hb; replace BK270 := sh_k BK270 hb; replace HB := sh_b (w := w) hb; (try clear hb); (try clear hb2); (try clear hk); (try clear hi)) | ((with_reducible refine gate_dst (N := 8) rfl ?_); refine sh_box 8 #[.int .i64 0, .int .i64 0, .int .i64 0, .bool false, .bool false] 49 ?_; intro gb285 hg w109 hbox hb; have GE285 := sh_z (w := w) hg; have NB268_285 := sh_n BK268 hg; have NB269_285 := sh_n BK269 hg; have NB270_285 := sh_n BK270 hg; have NB285_268 := sh_s NB268_285; have NB285_269 := sh_s NB269_285; have NB285_270 := sh_s NB270_285; replace BK268 := sh_k BK268 hb; replace BK269 := sh_k BK269 hb; replace BK270 := sh_k BK270 hb; replace HB := sh_b (w := w) hb; have BK285 := Aside0.mk (hbox); clear hb hbox hg; obtain ⟨hnb110, hnc110⟩ := nb_ NB285_268; obtain ⟨hnb111, hnc111⟩ := nb_ NB285_269; obtain ⟨hnb112, hnc112⟩ := nb_ NB285_270; have hcz113 := blk_all5 BK285.out; obtain ⟨hnb114, hnc114⟩ := nb_ NB270_268; have hcz115 := blk_all5 BK270.out))
         refine bodyPost_ret (results_ct rfl _ _ gb270 37 #[.int .u8 0, .int .u8 0, .int .u8 0, .int .i16 0, .int .i32 0] (0, 0) _ rfl bk_now Tryd.underlying37 rfl (by kernel_rfl)) rfl ?_
         exact ⟨ret_now, b_now⟩

end Go.Proofs.YtondogoepcndiaaDoor.P
