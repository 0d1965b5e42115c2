/- Made by this session's driver over the kit's printer: for each Go function a Lean function with the same answers, and a proof that the Go call comes to these answers; no conditions but the ones each theorem names. -/
import Derived.Test.YtkojjjdeacdabaaDoorPx0
import Derived.Test.YtkojjjdeacdabaaDoorPx5
import Derived.Test.YtkojjjdeacdabaaDoorPx6
namespace Go.Proofs.YtkojjjdeacdabaaDoor.P
open Go.RowKit Go.Proofs.YtkojjjdeacdabaaDoorW.PrintWords Go.Proofs.YtkojjjdeacdabaaDoorW.PrintLast Go.Proofs.YtkojjjdeacdabaaDoorW.PrintMore
attribute [local go_sem] max2_int min2_int max_two min_two max_three min_three max_four min_four   -- for this text's walks alone
set_option linter.unusedVariables false
set_option linter.unusedSimpArgs false

/-! ### insn_Reads: function 24 -/
mutual
def insn_Reads.j0 : Nat → Bool → Int → Int → Int → Int → Int → Bool → Bool → Bool → Bool → Bool → Option (List Int)
 | 0, _, _, _, _, _, _, _, _, _, _, _ => none
 | k + 1, x6, x483000, x483001, x483002, x483003, x483004, x499000, x499001, x499002, x499003, x499004 => if x6 = true then (if x499002 = true then (insn_Reads.j1 k x6 (wrap64 (x483001)) (wrap64 (x483002)) ((wrap64 (x483001)) != (wrap64 (x483002))) x499000 x499001 x499002 x499003 x499004) else (insn_Reads.j1 k x6 (wrap64 (x483001)) (wrap64 (x483002)) false x499000 x499001 x499002 x499003 x499004)) else (insn_Reads.j1 k x6 (wrap64 (x483001)) (wrap64 (x483002)) false x499000 x499001 x499002 x499003 x499004)
def insn_Reads.j1 : Nat → Bool → Int → Int → Bool → Bool → Bool → Bool → Bool → Bool → Option (List Int)
 | 0, _, _, _, _, _, _, _, _, _ => none
 | k + 1, x6, x7, x8, x50, x499000, x499001, x499002, x499003, x499004 => if x50 = true then (some (([mn x7 x8, mx x7 x8] : List Int))) else (if x6 = true then (some (([x7] : List Int))) else (if x499002 = true then (some (([x8] : List Int))) else (some ([] : List Int))))
end
def insn_Reads.f (k : Nat) (a0_0 : Int) (a0_1 : Int) (a0_2 : Int) (a0_3 : Int) (a0_4 : Int) : Option (List Int) := (insn_Of.f k a0_0 a0_1 a0_2 a0_3 a0_4).bind fun bt483 => (if bt483.2.2.2.2.2 = 0 then (if bt483.1 = 9 then (some (([0] : List Int))) else ((insn_fields.f k bt483.1 bt483.2.1 bt483.2.2.1 bt483.2.2.2.1 bt483.2.2.2.2.1).bind fun bt493 => (if bt493.1 = true then (if bt493.2.1 = true then (if bt483.1 = 1 then (if bt483.2.1 = 11 then (insn_Reads.j0 k (bt483.1 == 2) a0_0 a0_1 a0_2 a0_3 a0_4 bt493.1 bt493.2.1 bt493.2.2.1 bt493.2.2.2.1 bt493.2.2.2.2) else (insn_Reads.j0 k true a0_0 a0_1 a0_2 a0_3 a0_4 bt493.1 bt493.2.1 bt493.2.2.1 bt493.2.2.2.1 bt493.2.2.2.2)) else (insn_Reads.j0 k (bt483.1 == 2) a0_0 a0_1 a0_2 a0_3 a0_4 bt493.1 bt493.2.1 bt493.2.2.1 bt493.2.2.2.1 bt493.2.2.2.2)) else (insn_Reads.j0 k true a0_0 a0_1 a0_2 a0_3 a0_4 bt493.1 bt493.2.1 bt493.2.2.1 bt493.2.2.2.1 bt493.2.2.2.2)) else (if bt483.1 = 1 then (if bt483.2.1 = 11 then (insn_Reads.j0 k (bt483.1 == 2) a0_0 a0_1 a0_2 a0_3 a0_4 bt493.1 bt493.2.1 bt493.2.2.1 bt493.2.2.2.1 bt493.2.2.2.2) else (insn_Reads.j0 k true a0_0 a0_1 a0_2 a0_3 a0_4 bt493.1 bt493.2.1 bt493.2.2.1 bt493.2.2.2.1 bt493.2.2.2.2)) else (insn_Reads.j0 k (bt483.1 == 2) a0_0 a0_1 a0_2 a0_3 a0_4 bt493.1 bt493.2.1 bt493.2.2.1 bt493.2.2.2.1 bt493.2.2.2.2))))) else (some ([] : List Int)))
theorem insn_Reads.mono_l : ∀ k, (∀ y0 y1 y2 y3 y4 y5 y6 y7 y8 y9 y10, LeO (insn_Reads.j0 k y0 y1 y2 y3 y4 y5 y6 y7 y8 y9 y10) (insn_Reads.j0 (k + 1) y0 y1 y2 y3 y4 y5 y6 y7 y8 y9 y10)) ∧ (∀ y0 y1 y2 y3 y4 y5 y6 y7 y8, LeO (insn_Reads.j1 k y0 y1 y2 y3 y4 y5 y6 y7 y8) (insn_Reads.j1 (k + 1) y0 y1 y2 y3 y4 y5 y6 y7 y8))
 | 0 => ⟨fun _ _ _ _ _ _ _ _ _ _ _ r h => by simp [insn_Reads.j0] at h, fun _ _ _ _ _ _ _ _ _ r h => by simp [insn_Reads.j1] at h⟩
 | k + 1 => by
  obtain ⟨ih0, ih1⟩ := insn_Reads.mono_l k
  refine ⟨?_, ?_⟩
  ·intro y0 y1 y2 y3 y4 y5 y6 y7 y8 y9 y10
   unfold insn_Reads.j0
   repeat' first
   | (with_reducible exact ih0 _ _ _ _ _ _ _ _ _ _ _)
   | (with_reducible exact ih1 _ _ _ _ _ _ _ _ _)
   | (with_reducible exact insn_Of.mono _ _ _ _ _ _)
   | (with_reducible exact insn_fields.mono _ _ _ _ _ _)
   | (with_reducible exact LeO.refl _)
   | (with_reducible exact LeO.none _)
   | (with_reducible refine LeO.ite ?_ ?_)
   | (with_reducible refine LeO.bind ?_ (fun _ => ?_))
   | exact ih0 _ _ _ _ _ _ _ _ _ _ _
   | exact ih1 _ _ _ _ _ _ _ _ _
   | exact insn_Of.mono _ _ _ _ _ _
   | exact insn_fields.mono _ _ _ _ _ _
   | exact LeO.none _
   | refine LeO.ite ?_ ?_
   | refine LeO.bind ?_ (fun _ => ?_)
  ·intro y0 y1 y2 y3 y4 y5 y6 y7 y8
   unfold insn_Reads.j1
   repeat' first
   | (with_reducible exact ih0 _ _ _ _ _ _ _ _ _ _ _)
   | (with_reducible exact ih1 _ _ _ _ _ _ _ _ _)
   | (with_reducible exact insn_Of.mono _ _ _ _ _ _)
   | (with_reducible exact insn_fields.mono _ _ _ _ _ _)
   | (with_reducible exact LeO.refl _)
   | (with_reducible exact LeO.none _)
   | (with_reducible refine LeO.ite ?_ ?_)
   | (with_reducible refine LeO.bind ?_ (fun _ => ?_))
   | exact ih0 _ _ _ _ _ _ _ _ _ _ _
   | exact ih1 _ _ _ _ _ _ _ _ _
   | exact insn_Of.mono _ _ _ _ _ _
   | exact insn_fields.mono _ _ _ _ _ _
   | exact LeO.none _
   | refine LeO.ite ?_ ?_
   | refine LeO.bind ?_ (fun _ => ?_)
theorem insn_Reads.mono : ∀ a0 a1 a2 a3 a4 k, LeO (insn_Reads.f k a0 a1 a2 a3 a4) (insn_Reads.f (k + 1) a0 a1 a2 a3 a4) := by
 intro a0 a1 a2 a3 a4 k
 obtain ⟨ih0, ih1⟩ := insn_Reads.mono_l k
 unfold insn_Reads.f
 repeat' first
   | (with_reducible exact ih0 _ _ _ _ _ _ _ _ _ _ _)
   | (with_reducible exact ih1 _ _ _ _ _ _ _ _ _)
   | (with_reducible exact insn_Of.mono _ _ _ _ _ _)
   | (with_reducible exact insn_fields.mono _ _ _ _ _ _)
   | (with_reducible exact LeO.refl _)
   | (with_reducible exact LeO.none _)
   | (with_reducible refine LeO.ite ?_ ?_)
   | (with_reducible refine LeO.bind ?_ (fun _ => ?_))
   | exact ih0 _ _ _ _ _ _ _ _ _ _ _
   | exact ih1 _ _ _ _ _ _ _ _ _
   | exact insn_Of.mono _ _ _ _ _ _
   | exact insn_fields.mono _ _ _ _ _ _
   | exact LeO.none _
   | refine LeO.ite ?_ ?_
   | refine LeO.bind ?_ (fun _ => ?_)
set_option maxHeartbeats 8000000 in
set_option maxRecDepth 100000 in
theorem insn_Reads.calls (k : Nat) (a0_0 : Int) (a0_1 : Int) (a0_2 : Int) (a0_3 : Int) (a0_4 : Int) (r : List Int) (w : World) (hrG0 : Kd.C (Kd.int .i64) w (some ⟨0, 0, none⟩) gl0.length gl0) (h : insn_Reads.f k a0_0 a0_1 a0_2 a0_3 a0_4 = some r) :
  Calls Tryd.prog 24 #[.agg #[.int .u8 a0_0, .int .u8 a0_1, .int .u8 a0_2, .int .i16 a0_3, .int .i32 a0_4]] w fun e w' => ∃ v0_ : Value, e = .returned (v0_) ∧ Kd.R (Kd.int .i64) 3 w' w.heap.size (fun _ => True) v0_ r ∧ Below w.heap.size w w' := by
 have hu24 := Tryd.underlying24
 have hu26 := Tryd.underlying26
 have hu62 := Tryd.underlying62
 have HRG0 := Aside0.mk hrG0
 clear hrG0
 have HB := Aside0.mk (Below.refl w.heap.size w)
 have H : ((insn_Of.f k a0_0 a0_1 a0_2 a0_3 a0_4).bind fun bt483 => (if bt483.2.2.2.2.2 = 0 then (if bt483.1 = 9 then (some (([0] : List Int))) else ((insn_fields.f k bt483.1 bt483.2.1 bt483.2.2.1 bt483.2.2.2.1 bt483.2.2.2.2.1).bind fun bt493 => (if bt493.1 = true then (if bt493.2.1 = true then (if bt483.1 = 1 then (if bt483.2.1 = 11 then (insn_Reads.j0 k (bt483.1 == 2) a0_0 a0_1 a0_2 a0_3 a0_4 bt493.1 bt493.2.1 bt493.2.2.1 bt493.2.2.2.1 bt493.2.2.2.2) else (insn_Reads.j0 k true a0_0 a0_1 a0_2 a0_3 a0_4 bt493.1 bt493.2.1 bt493.2.2.1 bt493.2.2.2.1 bt493.2.2.2.2)) else (insn_Reads.j0 k (bt483.1 == 2) a0_0 a0_1 a0_2 a0_3 a0_4 bt493.1 bt493.2.1 bt493.2.2.1 bt493.2.2.2.1 bt493.2.2.2.2)) else (insn_Reads.j0 k true a0_0 a0_1 a0_2 a0_3 a0_4 bt493.1 bt493.2.1 bt493.2.2.1 bt493.2.2.2.1 bt493.2.2.2.2)) else (if bt483.1 = 1 then (if bt483.2.1 = 11 then (insn_Reads.j0 k (bt483.1 == 2) a0_0 a0_1 a0_2 a0_3 a0_4 bt493.1 bt493.2.1 bt493.2.2.1 bt493.2.2.2.1 bt493.2.2.2.2) else (insn_Reads.j0 k true a0_0 a0_1 a0_2 a0_3 a0_4 bt493.1 bt493.2.1 bt493.2.2.1 bt493.2.2.2.1 bt493.2.2.2.2)) else (insn_Reads.j0 k (bt483.1 == 2) a0_0 a0_1 a0_2 a0_3 a0_4 bt493.1 bt493.2.1 bt493.2.2.1 bt493.2.2.2.1 bt493.2.2.2.2))))) else (some ([] : List Int)))) = some r := h
 clear h
 replace H := Option.bind_eq_some_iff.mp H; obtain ⟨⟨t483, t484, t485, t486, t487, t488⟩, A20, H⟩ := H; try dsimp only at H
 have A2 := Aside0.mk A20
 clear A20
 by_cases c3 : t488 = 0
 ·rw [if_pos c3] at H
  have c3b0 : (t488 == 0) = true := beq_iff_eq.mpr c3
  have c3b1 : (t488 != 0) = false := bne_eq_false_iff_eq.mpr c3
  clear c3
  by_cases c4 : t483 = 9
  ·rw [if_pos c4] at H
   have c4b0 : (t483 == 9) = true := beq_iff_eq.mpr c4
   have c4b1 : (t483 != 9) = false := bne_eq_false_iff_eq.mpr c4
   clear c4
   obtain ⟨y490, hy490⟩ : ∃ y_ : List Int, y_ = (([0] : List Int)) := ⟨_, rfl⟩
   replace H : (some y490) = some r := by first | (rw [hy490]; with_reducible exact H) | (have H2_ := (Option.bind_some _ _).symm.trans H; rw [hy490]; with_reducible exact H2_) | (have H2_ := (Option.bind_some _ _).symm.trans H; with_reducible exact H2_) | with_reducible exact H | (rw [hy490]; exact H) | exact H
   have Ny490 := Aside0.mk hy490
   clear hy490
   obtain rfl := Option.some.inj H
   go_enter Tryd.func24, Tryd.ntmps24
   go_wp2_with (first | ((with_reducible refine gate_dst (N := 1) rfl ?_); refine sh_box 1 #[.int .u8 a0_0, .int .u8 a0_1, .int .u8 a0_2, .int .i16 a0_3, .int .i32 a0_4] 24 ?_; intro gb482 hg w5 hbox hb; have GE482 := sh_z (w := w) hg; replace HB := sh_b (w := w) hb; have BK482 := Aside0.mk (hbox); clear hb hbox hg; have hcz6 := blk_all5 BK482.out) | (go_at_call 12; (with_reducible refine (insn_Of.calls k a0_0 a0_1 a0_2 a0_3 a0_4 t483 t484 t485 t486 t487 t488 _ ?side1 A2.out).mono ?_); (case side1 => repeat (first | exact (Kd.C_below HRG0.out HB.out) | (with_reducible refine Kd.C_alloc ?_ _) | (with_reducible refine Kd.C_drewN ?_ _) | (with_reducible refine Kd.C_drew ?_))); rintro e w7 ⟨rfl, hb⟩; replace BK482 := sh_k BK482 hb; replace HB := sh_b (w := w) hb; (try clear hb); (try clear hb2); (try clear hk); (try clear hi)) | ((with_reducible refine gate_dst (N := 3) rfl ?_); refine sh_box 3 #[.int .i64 0, .int .i64 0, .int .i64 0, .bool false, .bool false] 26 ?_; intro gb489 hg w8 hbox hb; have GE489 := sh_z (w := w) hg; have NB482_489 := sh_n BK482 hg; have NB489_482 := sh_s NB482_489; replace BK482 := sh_k BK482 hb; replace HB := sh_b (w := w) hb; have BK489 := Aside0.mk (hbox); clear hb hbox hg; have hnb9 := NB489_482.out; have hnc9 := NB482_489.out; have hcz10 := blk_all5 BK489.out) | ((with_reducible refine gate_dst (N := 19) rfl ?_); refine Kd.R_lit (Kd.int .i64) _ 3 ?hg (N := 19) ?hd (xs := ([0] : List Int)) (inner := [.int .i64 0]) (ok := fun _ => True) (okp := fun _ => True) ?hr ?hp (fun _ hk => hk) trivial (Below.refl _ _) (Nat.le_refl _) (by simp) ?_; (case hd => rfl); (case hg => rfl); (case hr => first | (go_simp; done) | (go_simp; rfl)); (case hp => exact (Reps.one (show Kd.M (Kd.int .i64) _ _ _ 0 [.int .i64 0] from rfl) (Reps.none _ _))); intro v491 w11 ho12 hb hg_ hnew_; clear hg_ hnew_; (first | rw [← Ny490.out] at ho12 | (simp only [Int.reduceToNat] at ho12; rw [← Ny490.out] at ho12)); have HO492 := Aside0.mk (Kd.R_lower ho12 (below_size b_now)); replace BK482 := sh_kp (g := gb482) (t := 24) #[.int .u8 a0_0, .int .u8 a0_1, .int .u8 a0_2, .int .i16 a0_3, .int .i32 a0_4] hb; replace BK489 := sh_kp (g := gb489) (t := 26) #[.int .i64 t483, .int .i64 t484, .int .i64 t485, .bool t486, .bool t487] hb; replace HB := sh_b (w := w) hb; clear hb ho12))
   repeat (go_quiet (first | ((with_reducible refine gate_dst (N := 1) rfl ?_); refine sh_box 1 #[.int .u8 a0_0, .int .u8 a0_1, .int .u8 a0_2, .int .i16 a0_3, .int .i32 a0_4] 24 ?_; intro gb482 hg w5 hbox hb; have GE482 := sh_z (w := w) hg; replace HB := sh_b (w := w) hb; have BK482 := Aside0.mk (hbox); clear hb hbox hg; have hcz6 := blk_all5 BK482.out) | (go_at_call 12; (with_reducible refine (insn_Of.calls k a0_0 a0_1 a0_2 a0_3 a0_4 t483 t484 t485 t486 t487 t488 _ ?side1 A2.out).mono ?_); (case side1 => repeat (first | exact (Kd.C_below HRG0.out HB.out) | (with_reducible refine Kd.C_alloc ?_ _) | (with_reducible refine Kd.C_drewN ?_ _) | (with_reducible refine Kd.C_drew ?_))); rintro e w7 ⟨rfl, hb⟩; replace BK482 := sh_k BK482 hb; replace HB := sh_b (w := w) hb; (try clear hb); (try clear hb2); (try clear hk); (try clear hi)) | ((with_reducible refine gate_dst (N := 3) rfl ?_); refine sh_box 3 #[.int .i64 0, .int .i64 0, .int .i64 0, .bool false, .bool false] 26 ?_; intro gb489 hg w8 hbox hb; have GE489 := sh_z (w := w) hg; have NB482_489 := sh_n BK482 hg; have NB489_482 := sh_s NB482_489; replace BK482 := sh_k BK482 hb; replace HB := sh_b (w := w) hb; have BK489 := Aside0.mk (hbox); clear hb hbox hg; have hnb9 := NB489_482.out; have hnc9 := NB482_489.out; have hcz10 := blk_all5 BK489.out) | ((with_reducible refine gate_dst (N := 19) rfl ?_); refine Kd.R_lit (Kd.int .i64) _ 3 ?hg (N := 19) ?hd (xs := ([0] : List Int)) (inner := [.int .i64 0]) (ok := fun _ => True) (okp := fun _ => True) ?hr ?hp (fun _ hk => hk) trivial (Below.refl _ _) (Nat.le_refl _) (by simp) ?_; (case hd => rfl); (case hg => rfl); (case hr => first | (go_simp; done) | (go_simp; rfl)); (case hp => exact (Reps.one (show Kd.M (Kd.int .i64) _ _ _ 0 [.int .i64 0] from rfl) (Reps.none _ _))); intro v491 w11 ho12 hb hg_ hnew_; clear hg_ hnew_; (first | rw [← Ny490.out] at ho12 | (simp only [Int.reduceToNat] at ho12; rw [← Ny490.out] at ho12)); have HO492 := Aside0.mk (Kd.R_lower ho12 (below_size b_now)); replace BK482 := sh_kp (g := gb482) (t := 24) #[.int .u8 a0_0, .int .u8 a0_1, .int .u8 a0_2, .int .i16 a0_3, .int .i32 a0_4] hb; replace BK489 := sh_kp (g := gb489) (t := 26) #[.int .i64 t483, .int .i64 t484, .int .i64 t485, .bool t486, .bool t487] hb; replace HB := sh_b (w := w) hb; clear hb ho12)); try go_wp2_with (first | ((with_reducible refine gate_dst (N := 1) rfl ?_); refine sh_box 1 #[.int .u8 a0_0, .int .u8 a0_1, .int .u8 a0_2, .int .i16 a0_3, .int .i32 a0_4] 24 ?_; intro gb482 hg w5 hbox hb; have GE482 := sh_z (w := w) hg; replace HB := sh_b (w := w) hb; have BK482 := Aside0.mk (hbox); clear hb hbox hg; have hcz6 := blk_all5 BK482.out) | (go_at_call 12; (with_reducible refine (insn_Of.calls k a0_0 a0_1 a0_2 a0_3 a0_4 t483 t484 t485 t486 t487 t488 _ ?side1 A2.out).mono ?_); (case side1 => repeat (first | exact (Kd.C_below HRG0.out HB.out) | (with_reducible refine Kd.C_alloc ?_ _) | (with_reducible refine Kd.C_drewN ?_ _) | (with_reducible refine Kd.C_drew ?_))); rintro e w7 ⟨rfl, hb⟩; replace BK482 := sh_k BK482 hb; replace HB := sh_b (w := w) hb; (try clear hb); (try clear hb2); (try clear hk); (try clear hi)) | ((with_reducible refine gate_dst (N := 3) rfl ?_); refine sh_box 3 #[.int .i64 0, .int .i64 0, .int .i64 0, .bool false, .bool false] 26 ?_; intro gb489 hg w8 hbox hb; have GE489 := sh_z (w := w) hg; have NB482_489 := sh_n BK482 hg; have NB489_482 := sh_s NB482_489; replace BK482 := sh_k BK482 hb; replace HB := sh_b (w := w) hb; have BK489 := Aside0.mk (hbox); clear hb hbox hg; have hnb9 := NB489_482.out; have hnc9 := NB482_489.out; have hcz10 := blk_all5 BK489.out) | ((with_reducible refine gate_dst (N := 19) rfl ?_); refine Kd.R_lit (Kd.int .i64) _ 3 ?hg (N := 19) ?hd (xs := ([0] : List Int)) (inner := [.int .i64 0]) (ok := fun _ => True) (okp := fun _ => True) ?hr ?hp (fun _ hk => hk) trivial (Below.refl _ _) (Nat.le_refl _) (by simp) ?_; (case hd => rfl); (case hg => rfl); (case hr => first | (go_simp; done) | (go_simp; rfl)); (case hp => exact (Reps.one (show Kd.M (Kd.int .i64) _ _ _ 0 [.int .i64 0] from rfl) (Reps.none _ _))); intro v491 w11 ho12 hb hg_ hnew_; clear hg_ hnew_; (first | rw [← Ny490.out] at ho12 | (simp only [Int.reduceToNat] at ho12; rw [← Ny490.out] at ho12)); have HO492 := Aside0.mk (Kd.R_lower ho12 (below_size b_now)); replace BK482 := sh_kp (g := gb482) (t := 24) #[.int .u8 a0_0, .int .u8 a0_1, .int .u8 a0_2, .int .i16 a0_3, .int .i32 a0_4] hb; replace BK489 := sh_kp (g := gb489) (t := 26) #[.int .i64 t483, .int .i64 t484, .int .i64 t485, .bool t486, .bool t487] hb; replace HB := sh_b (w := w) hb; clear hb ho12)))
   go_ret
   exact ⟨_, ret_now, by (with_reducible repeat (first | apply Kd.R_alloc | apply Kd.R_drewN | apply Kd.R_drew)); exact HO492.out, b_now⟩
  ·rw [if_neg c4] at H
   have c4b0 : (t483 == 9) = false := beq_eq_false_iff_ne.mpr c4
   have c4b1 : (t483 != 9) = true := bne_iff_ne.mpr c4
   replace H := Option.bind_eq_some_iff.mp H; obtain ⟨⟨t493, t494, t495, t496, t497⟩, A130, H⟩ := H; try dsimp only at H
   have A13 := Aside0.mk A130
   clear A130
   have HC14 := Aside0.mk H
   clear H
   go_enter Tryd.func24, Tryd.ntmps24
   go_upto_region 7 with (first | ((with_reducible refine gate_dst (N := 1) rfl ?_); refine sh_box 1 #[.int .u8 a0_0, .int .u8 a0_1, .int .u8 a0_2, .int .i16 a0_3, .int .i32 a0_4] 24 ?_; intro gb482 hg w15 hbox hb; have GE482 := sh_z (w := w) hg; replace HB := sh_b (w := w) hb; have BK482 := Aside0.mk (hbox); clear hb hbox hg; have hcz16 := blk_all5 BK482.out) | (go_at_call 12; (with_reducible refine (insn_Of.calls k a0_0 a0_1 a0_2 a0_3 a0_4 t483 t484 t485 t486 t487 t488 _ ?side1 A2.out).mono ?_); (case side1 => repeat (first | exact (Kd.C_below HRG0.out HB.out) | (with_reducible refine Kd.C_alloc ?_ _) | (with_reducible refine Kd.C_drewN ?_ _) | (with_reducible refine Kd.C_drew ?_))); rintro e w17 ⟨rfl, hb⟩; replace BK482 := sh_k BK482 hb; replace HB := sh_b (w := w) hb; (try clear hb); (try clear hb2); (try clear hk); (try clear hi)) | ((with_reducible refine gate_dst (N := 3) rfl ?_); refine sh_box 3 #[.int .i64 0, .int .i64 0, .int .i64 0, .bool false, .bool false] 26 ?_; intro gb489 hg w18 hbox hb; have GE489 := sh_z (w := w) hg; have NB482_489 := sh_n BK482 hg; have NB489_482 := sh_s NB482_489; replace BK482 := sh_k BK482 hb; replace HB := sh_b (w := w) hb; have BK489 := Aside0.mk (hbox); clear hb hbox hg; have hnb19 := NB489_482.out; have hnc19 := NB482_489.out; have hcz20 := blk_all5 BK489.out) | (go_at_call 31; (with_reducible refine (insn_fields.calls k t483 t484 t485 t486 t487 t493 t494 t495 t496 t497 _ A13.out).mono ?_); rintro e w21 ⟨rfl, hb⟩; replace BK482 := sh_kp (g := gb482) (t := 24) #[.int .u8 a0_0, .int .u8 a0_1, .int .u8 a0_2, .int .i16 a0_3, .int .i32 a0_4] hb; replace BK489 := sh_kp (g := gb489) (t := 26) #[.int .i64 t483, .int .i64 t484, .int .i64 t485, .bool t486, .bool t487] hb; replace HB := sh_b (w := w) hb; (try clear hb); (try clear hb2); (try clear hk); (try clear hi)) | ((with_reducible refine gate_dst (N := 5) rfl ?_); refine sh_box 5 #[.bool false, .bool false, .bool false, .bool false, .bool false] 62 ?_; intro gb498 hg w22 hbox hb; have GE498 := sh_z (w := w) hg; have NB482_498 := sh_n BK482 hg; have NB489_498 := sh_n BK489 hg; have NB498_482 := sh_s NB482_498; have NB498_489 := sh_s NB489_498; replace BK482 := sh_k BK482 hb; replace BK489 := sh_k BK489 hb; replace HB := sh_b (w := w) hb; have BK498 := Aside0.mk (hbox); clear hb hbox hg; have hnb23 := NB498_482.out; have hnc23 := NB482_498.out; have hnb24 := NB498_489.out; have hnc24 := NB489_498.out; have hcz25 := blk_all5 BK498.out))
   repeat (go_quiet (first | ((with_reducible refine gate_dst (N := 1) rfl ?_); refine sh_box 1 #[.int .u8 a0_0, .int .u8 a0_1, .int .u8 a0_2, .int .i16 a0_3, .int .i32 a0_4] 24 ?_; intro gb482 hg w15 hbox hb; have GE482 := sh_z (w := w) hg; replace HB := sh_b (w := w) hb; have BK482 := Aside0.mk (hbox); clear hb hbox hg; have hcz16 := blk_all5 BK482.out) | (go_at_call 12; (with_reducible refine (insn_Of.calls k a0_0 a0_1 a0_2 a0_3 a0_4 t483 t484 t485 t486 t487 t488 _ ?side1 A2.out).mono ?_); (case side1 => repeat (first | exact (Kd.C_below HRG0.out HB.out) | (with_reducible refine Kd.C_alloc ?_ _) | (with_reducible refine Kd.C_drewN ?_ _) | (with_reducible refine Kd.C_drew ?_))); rintro e w17 ⟨rfl, hb⟩; replace BK482 := sh_k BK482 hb; replace HB := sh_b (w := w) hb; (try clear hb); (try clear hb2); (try clear hk); (try clear hi)) | ((with_reducible refine gate_dst (N := 3) rfl ?_); refine sh_box 3 #[.int .i64 0, .int .i64 0, .int .i64 0, .bool false, .bool false] 26 ?_; intro gb489 hg w18 hbox hb; have GE489 := sh_z (w := w) hg; have NB482_489 := sh_n BK482 hg; have NB489_482 := sh_s NB482_489; replace BK482 := sh_k BK482 hb; replace HB := sh_b (w := w) hb; have BK489 := Aside0.mk (hbox); clear hb hbox hg; have hnb19 := NB489_482.out; have hnc19 := NB482_489.out; have hcz20 := blk_all5 BK489.out) | (go_at_call 31; (with_reducible refine (insn_fields.calls k t483 t484 t485 t486 t487 t493 t494 t495 t496 t497 _ A13.out).mono ?_); rintro e w21 ⟨rfl, hb⟩; replace BK482 := sh_kp (g := gb482) (t := 24) #[.int .u8 a0_0, .int .u8 a0_1, .int .u8 a0_2, .int .i16 a0_3, .int .i32 a0_4] hb; replace BK489 := sh_kp (g := gb489) (t := 26) #[.int .i64 t483, .int .i64 t484, .int .i64 t485, .bool t486, .bool t487] hb; replace HB := sh_b (w := w) hb; (try clear hb); (try clear hb2); (try clear hk); (try clear hi)) | ((with_reducible refine gate_dst (N := 5) rfl ?_); refine sh_box 5 #[.bool false, .bool false, .bool false, .bool false, .bool false] 62 ?_; intro gb498 hg w22 hbox hb; have GE498 := sh_z (w := w) hg; have NB482_498 := sh_n BK482 hg; have NB489_498 := sh_n BK489 hg; have NB498_482 := sh_s NB482_498; have NB498_489 := sh_s NB489_498; replace BK482 := sh_k BK482 hb; replace BK489 := sh_k BK489 hb; replace HB := sh_b (w := w) hb; have BK498 := Aside0.mk (hbox); clear hb hbox hg; have hnb23 := NB498_482.out; have hnc23 := NB482_498.out; have hnb24 := NB498_489.out; have hnc24 := NB489_498.out; have hcz25 := blk_all5 BK498.out)); go_upto_region 7 with (first | ((with_reducible refine gate_dst (N := 1) rfl ?_); refine sh_box 1 #[.int .u8 a0_0, .int .u8 a0_1, .int .u8 a0_2, .int .i16 a0_3, .int .i32 a0_4] 24 ?_; intro gb482 hg w15 hbox hb; have GE482 := sh_z (w := w) hg; replace HB := sh_b (w := w) hb; have BK482 := Aside0.mk (hbox); clear hb hbox hg; have hcz16 := blk_all5 BK482.out) | (go_at_call 12; (with_reducible refine (insn_Of.calls k a0_0 a0_1 a0_2 a0_3 a0_4 t483 t484 t485 t486 t487 t488 _ ?side1 A2.out).mono ?_); (case side1 => repeat (first | exact (Kd.C_below HRG0.out HB.out) | (with_reducible refine Kd.C_alloc ?_ _) | (with_reducible refine Kd.C_drewN ?_ _) | (with_reducible refine Kd.C_drew ?_))); rintro e w17 ⟨rfl, hb⟩; replace BK482 := sh_k BK482 hb; replace HB := sh_b (w := w) hb; (try clear hb); (try clear hb2); (try clear hk); (try clear hi)) | ((with_reducible refine gate_dst (N := 3) rfl ?_); refine sh_box 3 #[.int .i64 0, .int .i64 0, .int .i64 0, .bool false, .bool false] 26 ?_; intro gb489 hg w18 hbox hb; have GE489 := sh_z (w := w) hg; have NB482_489 := sh_n BK482 hg; have NB489_482 := sh_s NB482_489; replace BK482 := sh_k BK482 hb; replace HB := sh_b (w := w) hb; have BK489 := Aside0.mk (hbox); clear hb hbox hg; have hnb19 := NB489_482.out; have hnc19 := NB482_489.out; have hcz20 := blk_all5 BK489.out) | (go_at_call 31; (with_reducible refine (insn_fields.calls k t483 t484 t485 t486 t487 t493 t494 t495 t496 t497 _ A13.out).mono ?_); rintro e w21 ⟨rfl, hb⟩; replace BK482 := sh_kp (g := gb482) (t := 24) #[.int .u8 a0_0, .int .u8 a0_1, .int .u8 a0_2, .int .i16 a0_3, .int .i32 a0_4] hb; replace BK489 := sh_kp (g := gb489) (t := 26) #[.int .i64 t483, .int .i64 t484, .int .i64 t485, .bool t486, .bool t487] hb; replace HB := sh_b (w := w) hb; (try clear hb); (try clear hb2); (try clear hk); (try clear hi)) | ((with_reducible refine gate_dst (N := 5) rfl ?_); refine sh_box 5 #[.bool false, .bool false, .bool false, .bool false, .bool false] 62 ?_; intro gb498 hg w22 hbox hb; have GE498 := sh_z (w := w) hg; have NB482_498 := sh_n BK482 hg; have NB489_498 := sh_n BK489 hg; have NB498_482 := sh_s NB482_498; have NB498_489 := sh_s NB489_498; replace BK482 := sh_k BK482 hb; replace BK489 := sh_k BK489 hb; replace HB := sh_b (w := w) hb; have BK498 := Aside0.mk (hbox); clear hb hbox hg; have hnb23 := NB498_482.out; have hnc23 := NB482_498.out; have hnb24 := NB498_489.out; have hnc24 := NB489_498.out; have hcz25 := blk_all5 BK498.out)))
   (try simp only [Act.put, List.setIfInBounds_toArray, List.set_cons_zero, List.set_cons_succ])
   go_cut [6] (fun v6 wc => ∃ (kq : Nat) (x6_13 : Bool), v6 = .bool x6_13 ∧ Aside0 (insn_Reads.j0 kq x6_13 a0_0 a0_1 a0_2 a0_3 a0_4 t493 t494 t495 t496 t497 = some r) ∧ Aside0 (kq ≤ k) ∧ Aside0 (wc.heap[gb482]? = some (.cells #[.int .u8 a0_0, .int .u8 a0_1, .int .u8 a0_2, .int .i16 a0_3, .int .i32 a0_4] 24 (0, 0))) ∧ Aside0 (wc.heap[gb489]? = some (.cells #[.int .i64 t483, .int .i64 t484, .int .i64 t485, .bool t486, .bool t487] 26 (0, 0))) ∧ Aside0 (wc.heap[gb498]? = some (.cells #[.bool t493, .bool t494, .bool t495, .bool t496, .bool t497] 62 (0, 0))) ∧ Aside0 (Below w.heap.size w wc))
   case first =>
    have H := HC14.out
    clear HC14
    by_cases c26 : t493 = true
    ·subst c26
     replace H := sh_t H
     by_cases c27 : t494 = true
     ·subst c27
      replace H := sh_t H
      by_cases c28 : t483 = 1
      ·rw [if_pos c28] at H
       have c28b0 : (t483 == 1) = true := beq_iff_eq.mpr c28
       have c28b1 : (t483 != 1) = false := bne_eq_false_iff_eq.mpr c28
       clear c28
       (first | rw [c28b0] | (simp only [i64_w, i32_w]; rw [c28b0]) | skip)
       by_cases c29 : t484 = 11
       ·rw [if_pos c29] at H
        have c29b0 : (t484 == 11) = true := beq_iff_eq.mpr c29
        have c29b1 : (t484 != 11) = false := bne_eq_false_iff_eq.mpr c29
        clear c29
        have H' := Aside0.mk H
        clear H
        have hnb30 := NB498_482.out
        have hnc30 := NB482_498.out
        have hnb31 := NB498_489.out
        have hnc31 := NB489_498.out
        have hcz32 := blk_all5 BK498.out
        have hnb33 := NB489_482.out
        have hnc33 := NB482_489.out
        have hcz34 := blk_all5 BK489.out
        go_wp2
        repeat (go_quiet (fail); try go_wp2)
        go_meet
        case rel => exact ⟨_, ((t483 == 2)), eq_now, H', ⟨by first | omega | exact Nat.le_refl _⟩, ⟨bk_now⟩, ⟨bk_now⟩, ⟨bk_now⟩, ⟨b_now⟩⟩
       ·rw [if_neg c29] at H
        have c29b0 : (t484 == 11) = false := beq_eq_false_iff_ne.mpr c29
        have c29b1 : (t484 != 11) = true := bne_iff_ne.mpr c29
        have H' := Aside0.mk H
        clear H
        have hnb35 := NB498_482.out
        have hnc35 := NB482_498.out
        have hnb36 := NB498_489.out
        have hnc36 := NB489_498.out
        have hcz37 := blk_all5 BK498.out
        have hnb38 := NB489_482.out
        have hnc38 := NB482_489.out
        have hcz39 := blk_all5 BK489.out
        go_wp2
        repeat (go_quiet (fail); try go_wp2)
        go_meet
        case rel => exact ⟨_, (true), eq_now, H', ⟨by first | omega | exact Nat.le_refl _⟩, ⟨bk_now⟩, ⟨bk_now⟩, ⟨bk_now⟩, ⟨b_now⟩⟩
      ·rw [if_neg c28] at H
       have c28b0 : (t483 == 1) = false := beq_eq_false_iff_ne.mpr c28
       have c28b1 : (t483 != 1) = true := bne_iff_ne.mpr c28
       (first | rw [c28b0] | (simp only [i64_w, i32_w]; rw [c28b0]) | skip)
       have H' := Aside0.mk H
       clear H
       have hnb40 := NB498_482.out
       have hnc40 := NB482_498.out
       have hnb41 := NB498_489.out
       have hnc41 := NB489_498.out
       have hcz42 := blk_all5 BK498.out
       have hnb43 := NB489_482.out
       have hnc43 := NB482_489.out
       have hcz44 := blk_all5 BK489.out
       go_wp2
       repeat (go_quiet (fail); try go_wp2)
       go_meet
       case rel => exact ⟨_, ((t483 == 2)), eq_now, H', ⟨by first | omega | exact Nat.le_refl _⟩, ⟨bk_now⟩, ⟨bk_now⟩, ⟨bk_now⟩, ⟨b_now⟩⟩
     ·replace c27 := Bool.eq_false_iff.mpr c27
      subst c27
      replace H := sh_f H
      have H' := Aside0.mk H
      clear H
      have hnb45 := NB498_482.out
      have hnc45 := NB482_498.out
      have hnb46 := NB498_489.out
      have hnc46 := NB489_498.out
      have hcz47 := blk_all5 BK498.out
      go_wp2
      repeat (go_quiet (fail); try go_wp2)
      go_meet
      case rel => exact ⟨_, (true), eq_now, H', ⟨by first | omega | exact Nat.le_refl _⟩, ⟨bk_now⟩, ⟨bk_now⟩, ⟨bk_now⟩, ⟨b_now⟩⟩
    ·replace c26 := Bool.eq_false_iff.mpr c26
     subst c26
     replace H := sh_f H
     by_cases c48 : t483 = 1
     ·rw [if_pos c48] at H
      have c48b0 : (t483 == 1) = true := beq_iff_eq.mpr c48
      have c48b1 : (t483 != 1) = false := bne_eq_false_iff_eq.mpr c48
      clear c48
      by_cases c49 : t484 = 11
      ·rw [if_pos c49] at H
       have c49b0 : (t484 == 11) = true := beq_iff_eq.mpr c49
       have c49b1 : (t484 != 11) = false := bne_eq_false_iff_eq.mpr c49
       clear c49
       have H' := Aside0.mk H
       clear H
       have hnb50 := NB498_482.out
       have hnc50 := NB482_498.out
       have hnb51 := NB498_489.out
       have hnc51 := NB489_498.out
       have hcz52 := blk_all5 BK498.out
       have hnb53 := NB489_482.out
       have hnc53 := NB482_489.out
       have hcz54 := blk_all5 BK489.out
       go_wp2
       repeat (go_quiet (fail); try go_wp2)
       go_meet
       case rel => exact ⟨_, ((t483 == 2)), eq_now, H', ⟨by first | omega | exact Nat.le_refl _⟩, ⟨bk_now⟩, ⟨bk_now⟩, ⟨bk_now⟩, ⟨b_now⟩⟩
      ·rw [if_neg c49] at H
       have c49b0 : (t484 == 11) = false := beq_eq_false_iff_ne.mpr c49
       have c49b1 : (t484 != 11) = true := bne_iff_ne.mpr c49
       have H' := Aside0.mk H
       clear H
       have hnb55 := NB498_482.out
       have hnc55 := NB482_498.out
       have hnb56 := NB498_489.out
       have hnc56 := NB489_498.out
       have hcz57 := blk_all5 BK498.out
       have hnb58 := NB489_482.out
       have hnc58 := NB482_489.out
       have hcz59 := blk_all5 BK489.out
       go_wp2
       repeat (go_quiet (fail); try go_wp2)
       go_meet
       case rel => exact ⟨_, (true), eq_now, H', ⟨by first | omega | exact Nat.le_refl _⟩, ⟨bk_now⟩, ⟨bk_now⟩, ⟨bk_now⟩, ⟨b_now⟩⟩
     ·rw [if_neg c48] at H
      have c48b0 : (t483 == 1) = false := beq_eq_false_iff_ne.mpr c48
      have c48b1 : (t483 != 1) = true := bne_iff_ne.mpr c48
      have H' := Aside0.mk H
      clear H
      have hnb60 := NB498_482.out
      have hnc60 := NB482_498.out
      have hnb61 := NB498_489.out
      have hnc61 := NB489_498.out
      have hcz62 := blk_all5 BK498.out
      have hnb63 := NB489_482.out
      have hnc63 := NB482_489.out
      have hcz64 := blk_all5 BK489.out
      go_wp2
      repeat (go_quiet (fail); try go_wp2)
      go_meet
      case rel => exact ⟨_, ((t483 == 2)), eq_now, H', ⟨by first | omega | exact Nat.le_refl _⟩, ⟨bk_now⟩, ⟨bk_now⟩, ⟨bk_now⟩, ⟨b_now⟩⟩
   case rest =>
    clear HC14
    try clear c1
    try clear c2
    try clear p2
    try clear c3
    try clear c3b0
    try clear c3b1
    try clear c4
    try clear c4b0
    try clear c4b1
    try clear c5
    try clear c6
    try clear c9
    try clear c19
    try clear c23
    try clear c24
    try clear c26
    try clear c27
    try clear c28
    try clear c28b0
    try clear c28b1
    try clear c29
    try clear c29b0
    try clear c29b1
    try clear c30
    try clear c31
    try clear c33
    try clear c35
    try clear c36
    try clear c38
    try clear c40
    try clear c41
    try clear c43
    try clear c45
    try clear c46
    try clear c48
    try clear c48b0
    try clear c48b1
    try clear c49
    try clear c49b0
    try clear c49b1
    try clear c50
    try clear c51
    try clear c53
    try clear c55
    try clear c56
    try clear c58
    try clear c60
    try clear c61
    try clear c63
    try clear hcz10
    try clear hcz16
    try clear hcz20
    try clear hcz25
    try clear hcz32
    try clear hcz34
    try clear hcz37
    try clear hcz39
    try clear hcz42
    try clear hcz44
    try clear hcz47
    try clear hcz52
    try clear hcz54
    try clear hcz57
    try clear hcz59
    try clear hcz62
    try clear hcz64
    try clear hcz6
    obtain ⟨kq, x6_13, rfl, HA, HJ13, BK482, BK489, BK498, HB⟩ := hcut
    cases kq with
    | zero => exact absurd HA.out (by simp [insn_Reads.j0])
    | succ kj13 =>
     have H := HA.out
     clear HA
     simp only [insn_Reads.j0] at H
     have HC65 := Aside0.mk H
     clear H
     have hnb66 := NB482_489.out
     have hnc66 := NB489_482.out
     have hnb67 := NB482_498.out
     have hnc67 := NB498_482.out
     have hcz68 := blk_all5 BK482.out
     go_upto_region 9 with (fail)
     repeat (go_quiet (fail); go_upto_region 9 with (fail))
     go_cut [50] (fun v50 wc => ∃ (kq : Nat) (x50_64 : Bool), v50 = .bool x50_64 ∧ Aside0 (insn_Reads.j1 kq x6_13 (wrap64 (a0_1)) (wrap64 (a0_2)) x50_64 t493 t494 t495 t496 t497 = some r) ∧ Aside0 (kq ≤ kj13) ∧ Aside0 (wc.heap[gb482]? = some (.cells #[.int .u8 a0_0, .int .u8 a0_1, .int .u8 a0_2, .int .i16 a0_3, .int .i32 a0_4] 24 (0, 0))) ∧ Aside0 (wc.heap[gb489]? = some (.cells #[.int .i64 t483, .int .i64 t484, .int .i64 t485, .bool t486, .bool t487] 26 (0, 0))) ∧ Aside0 (wc.heap[gb498]? = some (.cells #[.bool t493, .bool t494, .bool t495, .bool t496, .bool t497] 62 (0, 0))) ∧ Aside0 (Below w.heap.size w wc))
     case first =>
      have H := HC65.out
      clear HC65
      by_cases c69 : x6_13 = true
      ·subst c69
       replace H := sh_t H
       by_cases c70 : t495 = true
       ·subst c70
        replace H := sh_t H
        have H' := Aside0.mk H
        clear H
        have hnb71 := NB498_482.out
        have hnc71 := NB482_498.out
        have hnb72 := NB498_489.out
        have hnc72 := NB489_498.out
        have hcz73 := blk_all5 BK498.out
        go_wp2
        repeat (go_quiet (fail); try go_wp2)
        go_meet
        case rel => exact ⟨_, (((wrap64 (a0_1)) != (wrap64 (a0_2)))), eq_now, H', ⟨by have := HJ13.out; first | omega | exact Nat.le_refl _⟩, ⟨bk_now⟩, ⟨bk_now⟩, ⟨bk_now⟩, ⟨b_now⟩⟩
       ·replace c70 := Bool.eq_false_iff.mpr c70
        subst c70
        replace H := sh_f H
        have H' := Aside0.mk H
        clear H
        have hnb74 := NB498_482.out
        have hnc74 := NB482_498.out
        have hnb75 := NB498_489.out
        have hnc75 := NB489_498.out
        have hcz76 := blk_all5 BK498.out
        go_wp2
        repeat (go_quiet (fail); try go_wp2)
        go_meet
        case rel => exact ⟨_, (false), eq_now, H', ⟨by have := HJ13.out; first | omega | exact Nat.le_refl _⟩, ⟨bk_now⟩, ⟨bk_now⟩, ⟨bk_now⟩, ⟨b_now⟩⟩
      ·replace c69 := Bool.eq_false_iff.mpr c69
       subst c69
       replace H := sh_f H
       have H' := Aside0.mk H
       clear H
       go_wp2
       repeat (go_quiet (fail); try go_wp2)
       go_meet
       case rel => exact ⟨_, (false), eq_now, H', ⟨by have := HJ13.out; first | omega | exact Nat.le_refl _⟩, ⟨bk_now⟩, ⟨bk_now⟩, ⟨bk_now⟩, ⟨b_now⟩⟩
     case rest =>
      clear HC65
      try clear c1
      try clear c2
      try clear p2
      try clear c3
      try clear c3b0
      try clear c3b1
      try clear c4
      try clear c4b0
      try clear c4b1
      try clear c5
      try clear c6
      try clear p6
      try clear c7
      try clear c9
      try clear c19
      try clear c23
      try clear c24
      try clear c26
      try clear c27
      try clear c28
      try clear c28b0
      try clear c28b1
      try clear c29
      try clear c29b0
      try clear c29b1
      try clear c30
      try clear c31
      try clear c33
      try clear c35
      try clear c36
      try clear c38
      try clear c40
      try clear c41
      try clear c43
      try clear c45
      try clear c46
      try clear c48
      try clear c48b0
      try clear c48b1
      try clear c49
      try clear c49b0
      try clear c49b1
      try clear c50
      try clear c51
      try clear c53
      try clear c55
      try clear c56
      try clear c58
      try clear c60
      try clear c61
      try clear c63
      try clear p64
      try clear c66
      try clear c67
      try clear c69
      try clear c70
      try clear c71
      try clear c72
      try clear c74
      try clear c75
      try clear hcz10
      try clear hcz16
      try clear hcz20
      try clear hcz25
      try clear hcz32
      try clear hcz34
      try clear hcz37
      try clear hcz39
      try clear hcz42
      try clear hcz44
      try clear hcz47
      try clear hcz52
      try clear hcz54
      try clear hcz57
      try clear hcz59
      try clear hcz62
      try clear hcz64
      try clear hcz68
      try clear hcz6
      try clear hcz73
      try clear hcz76
      try clear p2
      obtain ⟨kq, x50_64, rfl, HA, HJ64, BK482, BK489, BK498, HB⟩ := hcut
      cases kq with
      | zero => exact absurd HA.out (by simp [insn_Reads.j1])
      | succ kj64 =>
       have H := HA.out
       clear HA
       simp only [insn_Reads.j1] at H
       by_cases c77 : x50_64 = true
       ·subst c77
        replace H := sh_t H
        obtain ⟨ji78, hji78⟩ : ∃ j_ : Int, (mn (wrap64 (a0_1)) (wrap64 (a0_2))) = j_ := ⟨_, rfl⟩
        replace H : (some (([ji78, mx (wrap64 (a0_1)) (wrap64 (a0_2))] : List Int))) = some r := by first | (rw [hji78] at H; exact H) | (simp only [hji78] at H ⊢; exact H)
        have hji78_ : (if (wrap64 (a0_2)) < (wrap64 (a0_1)) then (wrap64 (a0_2)) else (wrap64 (a0_1))) = ji78 := hji78
        obtain ⟨ji79, hji79⟩ : ∃ j_ : Int, (mx (wrap64 (a0_1)) (wrap64 (a0_2))) = j_ := ⟨_, rfl⟩
        replace H : (some (([ji78, ji79] : List Int))) = some r := by first | (rw [hji79] at H; exact H) | (simp only [hji79] at H ⊢; exact H)
        have hji79_ : (if (wrap64 (a0_1)) < (wrap64 (a0_2)) then (wrap64 (a0_2)) else (wrap64 (a0_1))) = ji79 := hji79
        obtain ⟨y499, hy499⟩ : ∃ y_ : List Int, y_ = (([ji78, ji79] : List Int)) := ⟨_, rfl⟩
        replace H : (some y499) = some r := by first | (rw [hy499]; with_reducible exact H) | (have H2_ := (Option.bind_some _ _).symm.trans H; rw [hy499]; with_reducible exact H2_) | (have H2_ := (Option.bind_some _ _).symm.trans H; with_reducible exact H2_) | with_reducible exact H | (rw [hy499]; exact H) | exact H
        have Ny499 := Aside0.mk hy499
        clear hy499
        obtain rfl := Option.some.inj H
        go_wp2_with (first | ((with_reducible refine gate_dst (N := 67) rfl ?_); refine Kd.R_lit (Kd.int .i64) _ 3 ?hg (N := 67) ?hd (xs := ([ji78, ji79] : List Int)) (inner := [.int .i64 ji78, .int .i64 ji79]) (ok := fun _ => True) (okp := fun _ => True) ?hr ?hp (fun _ hk => hk) trivial (Below.refl _ _) (Nat.le_refl _) (by simp) ?_; (case hd => rfl); (case hg => rfl); (case hr => first | (go_simp; done) | (go_simp; rfl)); (case hp => exact (Reps.one (show Kd.M (Kd.int .i64) _ _ _ ji78 [.int .i64 ji78] from rfl) (Reps.one (show Kd.M (Kd.int .i64) _ _ _ ji79 [.int .i64 ji79] from rfl) (Reps.none _ _)))); intro v500 w80 ho81 hb hg_ hnew_; clear hg_ hnew_; (first | rw [← Ny499.out] at ho81 | (simp only [Int.reduceToNat] at ho81; rw [← Ny499.out] at ho81)); have HO501 := Aside0.mk (Kd.R_lower ho81 (below_size b_now)); replace BK482 := sh_k BK482 hb; replace BK489 := sh_k BK489 hb; replace BK498 := sh_k BK498 hb; replace HB := sh_b (w := w) hb; clear hb ho81))
        repeat (go_quiet (first | ((with_reducible refine gate_dst (N := 67) rfl ?_); refine Kd.R_lit (Kd.int .i64) _ 3 ?hg (N := 67) ?hd (xs := ([ji78, ji79] : List Int)) (inner := [.int .i64 ji78, .int .i64 ji79]) (ok := fun _ => True) (okp := fun _ => True) ?hr ?hp (fun _ hk => hk) trivial (Below.refl _ _) (Nat.le_refl _) (by simp) ?_; (case hd => rfl); (case hg => rfl); (case hr => first | (go_simp; done) | (go_simp; rfl)); (case hp => exact (Reps.one (show Kd.M (Kd.int .i64) _ _ _ ji78 [.int .i64 ji78] from rfl) (Reps.one (show Kd.M (Kd.int .i64) _ _ _ ji79 [.int .i64 ji79] from rfl) (Reps.none _ _)))); intro v500 w80 ho81 hb hg_ hnew_; clear hg_ hnew_; (first | rw [← Ny499.out] at ho81 | (simp only [Int.reduceToNat] at ho81; rw [← Ny499.out] at ho81)); have HO501 := Aside0.mk (Kd.R_lower ho81 (below_size b_now)); replace BK482 := sh_k BK482 hb; replace BK489 := sh_k BK489 hb; replace BK498 := sh_k BK498 hb; replace HB := sh_b (w := w) hb; clear hb ho81)); try go_wp2_with (first | ((with_reducible refine gate_dst (N := 67) rfl ?_); refine Kd.R_lit (Kd.int .i64) _ 3 ?hg (N := 67) ?hd (xs := ([ji78, ji79] : List Int)) (inner := [.int .i64 ji78, .int .i64 ji79]) (ok := fun _ => True) (okp := fun _ => True) ?hr ?hp (fun _ hk => hk) trivial (Below.refl _ _) (Nat.le_refl _) (by simp) ?_; (case hd => rfl); (case hg => rfl); (case hr => first | (go_simp; done) | (go_simp; rfl)); (case hp => exact (Reps.one (show Kd.M (Kd.int .i64) _ _ _ ji78 [.int .i64 ji78] from rfl) (Reps.one (show Kd.M (Kd.int .i64) _ _ _ ji79 [.int .i64 ji79] from rfl) (Reps.none _ _)))); intro v500 w80 ho81 hb hg_ hnew_; clear hg_ hnew_; (first | rw [← Ny499.out] at ho81 | (simp only [Int.reduceToNat] at ho81; rw [← Ny499.out] at ho81)); have HO501 := Aside0.mk (Kd.R_lower ho81 (below_size b_now)); replace BK482 := sh_k BK482 hb; replace BK489 := sh_k BK489 hb; replace BK498 := sh_k BK498 hb; replace HB := sh_b (w := w) hb; clear hb ho81)))
        go_ret
        exact ⟨_, by first | rfl | (simp [errW_none, errW_some] <;> rfl) | (simp only [← hji78, ← hji79]; first | rfl | (simp [errW_none, errW_some] <;> rfl)) | (simp [*, errW_none, errW_some] <;> rfl), by (with_reducible repeat (first | apply Kd.R_alloc | apply Kd.R_drewN | apply Kd.R_drew)); exact HO501.out, b_now⟩
       ·replace c77 := Bool.eq_false_iff.mpr c77
        subst c77
        replace H := sh_f H
        by_cases c82 : x6_13 = true
        ·subst c82
         replace H := sh_t H
         obtain ⟨y502, hy502⟩ : ∃ y_ : List Int, y_ = (([(wrap64 (a0_1))] : List Int)) := ⟨_, rfl⟩
         replace H : (some y502) = some r := by first | (rw [hy502]; with_reducible exact H) | (have H2_ := (Option.bind_some _ _).symm.trans H; rw [hy502]; with_reducible exact H2_) | (have H2_ := (Option.bind_some _ _).symm.trans H; with_reducible exact H2_) | with_reducible exact H | (rw [hy502]; exact H) | exact H
         have Ny502 := Aside0.mk hy502
         clear hy502
         obtain rfl := Option.some.inj H
         go_wp2_with (first | ((with_reducible refine gate_dst (N := 71) rfl ?_); refine Kd.R_lit (Kd.int .i64) _ 3 ?hg (N := 71) ?hd (xs := ([(wrap64 (a0_1))] : List Int)) (inner := [.int .i64 (wrap64 (a0_1))]) (ok := fun _ => True) (okp := fun _ => True) ?hr ?hp (fun _ hk => hk) trivial (Below.refl _ _) (Nat.le_refl _) (by simp) ?_; (case hd => rfl); (case hg => rfl); (case hr => first | (go_simp; done) | (go_simp; rfl)); (case hp => exact (Reps.one (show Kd.M (Kd.int .i64) _ _ _ (wrap64 (a0_1)) [.int .i64 (wrap64 (a0_1))] from rfl) (Reps.none _ _))); intro v503 w83 ho84 hb hg_ hnew_; clear hg_ hnew_; (first | rw [← Ny502.out] at ho84 | (simp only [Int.reduceToNat] at ho84; rw [← Ny502.out] at ho84)); have HO504 := Aside0.mk (Kd.R_lower ho84 (below_size b_now)); replace BK482 := sh_k BK482 hb; replace BK489 := sh_k BK489 hb; replace BK498 := sh_k BK498 hb; replace HB := sh_b (w := w) hb; clear hb ho84))
         repeat (go_quiet (first | ((with_reducible refine gate_dst (N := 71) rfl ?_); refine Kd.R_lit (Kd.int .i64) _ 3 ?hg (N := 71) ?hd (xs := ([(wrap64 (a0_1))] : List Int)) (inner := [.int .i64 (wrap64 (a0_1))]) (ok := fun _ => True) (okp := fun _ => True) ?hr ?hp (fun _ hk => hk) trivial (Below.refl _ _) (Nat.le_refl _) (by simp) ?_; (case hd => rfl); (case hg => rfl); (case hr => first | (go_simp; done) | (go_simp; rfl)); (case hp => exact (Reps.one (show Kd.M (Kd.int .i64) _ _ _ (wrap64 (a0_1)) [.int .i64 (wrap64 (a0_1))] from rfl) (Reps.none _ _))); intro v503 w83 ho84 hb hg_ hnew_; clear hg_ hnew_; (first | rw [← Ny502.out] at ho84 | (simp only [Int.reduceToNat] at ho84; rw [← Ny502.out] at ho84)); have HO504 := Aside0.mk (Kd.R_lower ho84 (below_size b_now)); replace BK482 := sh_k BK482 hb; replace BK489 := sh_k BK489 hb; replace BK498 := sh_k BK498 hb; replace HB := sh_b (w := w) hb; clear hb ho84)); try go_wp2_with (first | ((with_reducible refine gate_dst (N := 71) rfl ?_); refine Kd.R_lit (Kd.int .i64) _ 3 ?hg (N := 71) ?hd (xs := ([(wrap64 (a0_1))] : List Int)) (inner := [.int .i64 (wrap64 (a0_1))]) (ok := fun _ => True) (okp := fun _ => True) ?hr ?hp (fun _ hk => hk) trivial (Below.refl _ _) (Nat.le_refl _) (by simp) ?_; (case hd => rfl); (case hg => rfl); (case hr => first | (go_simp; done) | (go_simp; rfl)); (case hp => exact (Reps.one (show Kd.M (Kd.int .i64) _ _ _ (wrap64 (a0_1)) [.int .i64 (wrap64 (a0_1))] from rfl) (Reps.none _ _))); intro v503 w83 ho84 hb hg_ hnew_; clear hg_ hnew_; (first | rw [← Ny502.out] at ho84 | (simp only [Int.reduceToNat] at ho84; rw [← Ny502.out] at ho84)); have HO504 := Aside0.mk (Kd.R_lower ho84 (below_size b_now)); replace BK482 := sh_k BK482 hb; replace BK489 := sh_k BK489 hb; replace BK498 := sh_k BK498 hb; replace HB := sh_b (w := w) hb; clear hb ho84)))
         go_ret
         exact ⟨_, ret_now, by (with_reducible repeat (first | apply Kd.R_alloc | apply Kd.R_drewN | apply Kd.R_drew)); exact HO504.out, b_now⟩
        ·replace c82 := Bool.eq_false_iff.mpr c82
         subst c82
         replace H := sh_f H
         by_cases c85 : t495 = true
         ·subst c85
          replace H := sh_t H
          obtain ⟨y505, hy505⟩ : ∃ y_ : List Int, y_ = (([(wrap64 (a0_2))] : List Int)) := ⟨_, rfl⟩
          replace H : (some y505) = some r := by first | (rw [hy505]; with_reducible exact H) | (have H2_ := (Option.bind_some _ _).symm.trans H; rw [hy505]; with_reducible exact H2_) | (have H2_ := (Option.bind_some _ _).symm.trans H; with_reducible exact H2_) | with_reducible exact H | (rw [hy505]; exact H) | exact H
          have Ny505 := Aside0.mk hy505
          clear hy505
          obtain rfl := Option.some.inj H
          have hnb86 := NB498_482.out
          have hnc86 := NB482_498.out
          have hnb87 := NB498_489.out
          have hnc87 := NB489_498.out
          have hcz88 := blk_all5 BK498.out
          go_wp2_with (first | ((with_reducible refine gate_dst (N := 76) rfl ?_); refine Kd.R_lit (Kd.int .i64) _ 3 ?hg (N := 76) ?hd (xs := ([(wrap64 (a0_2))] : List Int)) (inner := [.int .i64 (wrap64 (a0_2))]) (ok := fun _ => True) (okp := fun _ => True) ?hr ?hp (fun _ hk => hk) trivial (Below.refl _ _) (Nat.le_refl _) (by simp) ?_; (case hd => rfl); (case hg => rfl); (case hr => first | (go_simp; done) | (go_simp; rfl)); (case hp => exact (Reps.one (show Kd.M (Kd.int .i64) _ _ _ (wrap64 (a0_2)) [.int .i64 (wrap64 (a0_2))] from rfl) (Reps.none _ _))); intro v506 w89 ho90 hb hg_ hnew_; clear hg_ hnew_; (first | rw [← Ny505.out] at ho90 | (simp only [Int.reduceToNat] at ho90; rw [← Ny505.out] at ho90)); have HO507 := Aside0.mk (Kd.R_lower ho90 (below_size b_now)); replace BK482 := sh_k BK482 hb; replace BK489 := sh_k BK489 hb; replace BK498 := sh_k BK498 hb; replace HB := sh_b (w := w) hb; clear hb ho90))
          repeat (go_quiet (first | ((with_reducible refine gate_dst (N := 76) rfl ?_); refine Kd.R_lit (Kd.int .i64) _ 3 ?hg (N := 76) ?hd (xs := ([(wrap64 (a0_2))] : List Int)) (inner := [.int .i64 (wrap64 (a0_2))]) (ok := fun _ => True) (okp := fun _ => True) ?hr ?hp (fun _ hk => hk) trivial (Below.refl _ _) (Nat.le_refl _) (by simp) ?_; (case hd => rfl); (case hg => rfl); (case hr => first | (go_simp; done) | (go_simp; rfl)); (case hp => exact (Reps.one (show Kd.M (Kd.int .i64) _ _ _ (wrap64 (a0_2)) [.int .i64 (wrap64 (a0_2))] from rfl) (Reps.none _ _))); intro v506 w89 ho90 hb hg_ hnew_; clear hg_ hnew_; (first | rw [← Ny505.out] at ho90 | (simp only [Int.reduceToNat] at ho90; rw [← Ny505.out] at ho90)); have HO507 := Aside0.mk (Kd.R_lower ho90 (below_size b_now)); replace BK482 := sh_k BK482 hb; replace BK489 := sh_k BK489 hb; replace BK498 := sh_k BK498 hb; replace HB := sh_b (w := w) hb; clear hb ho90)); try go_wp2_with (first | ((with_reducible refine gate_dst (N := 76) rfl ?_); refine Kd.R_lit (Kd.int .i64) _ 3 ?hg (N := 76) ?hd (xs := ([(wrap64 (a0_2))] : List Int)) (inner := [.int .i64 (wrap64 (a0_2))]) (ok := fun _ => True) (okp := fun _ => True) ?hr ?hp (fun _ hk => hk) trivial (Below.refl _ _) (Nat.le_refl _) (by simp) ?_; (case hd => rfl); (case hg => rfl); (case hr => first | (go_simp; done) | (go_simp; rfl)); (case hp => exact (Reps.one (show Kd.M (Kd.int .i64) _ _ _ (wrap64 (a0_2)) [.int .i64 (wrap64 (a0_2))] from rfl) (Reps.none _ _))); intro v506 w89 ho90 hb hg_ hnew_; clear hg_ hnew_; (first | rw [← Ny505.out] at ho90 | (simp only [Int.reduceToNat] at ho90; rw [← Ny505.out] at ho90)); have HO507 := Aside0.mk (Kd.R_lower ho90 (below_size b_now)); replace BK482 := sh_k BK482 hb; replace BK489 := sh_k BK489 hb; replace BK498 := sh_k BK498 hb; replace HB := sh_b (w := w) hb; clear hb ho90)))
          go_ret
          exact ⟨_, ret_now, by (with_reducible repeat (first | apply Kd.R_alloc | apply Kd.R_drewN | apply Kd.R_drew)); exact HO507.out, b_now⟩
         ·replace c85 := Bool.eq_false_iff.mpr c85
          subst c85
          replace H := sh_f H
          obtain rfl := Option.some.inj H
          have hnb91 := NB498_482.out
          have hnc91 := NB482_498.out
          have hnb92 := NB498_489.out
          have hnc92 := NB489_498.out
          have hcz93 := blk_all5 BK498.out
          go_wp2
          repeat (go_quiet (fail); try go_wp2)
          go_ret
          exact ⟨_, ret_now, by first | exact Kd.R_nil _ _ _ _ _ | exact Kd.N_nil _ _ _ _ _ | exact Kd.V_nil _ _ _ _ _ | exact Kd.Q_nil _ _ _ _ _ | exact Kd.S_nil _ _ _ _ _, b_now⟩
 ·rw [if_neg c3] at H
  have c3b0 : (t488 == 0) = false := beq_eq_false_iff_ne.mpr c3
  have c3b1 : (t488 != 0) = true := bne_iff_ne.mpr c3
  obtain rfl := Option.some.inj H
  go_enter Tryd.func24, Tryd.ntmps24
  go_wp2_with (first | ((with_reducible refine gate_dst (N := 1) rfl ?_); refine sh_box 1 #[.int .u8 a0_0, .int .u8 a0_1, .int .u8 a0_2, .int .i16 a0_3, .int .i32 a0_4] 24 ?_; intro gb482 hg w94 hbox hb; have GE482 := sh_z (w := w) hg; replace HB := sh_b (w := w) hb; have BK482 := Aside0.mk (hbox); clear hb hbox hg; have hcz95 := blk_all5 BK482.out) | (go_at_call 12; (with_reducible refine (insn_Of.calls k a0_0 a0_1 a0_2 a0_3 a0_4 t483 t484 t485 t486 t487 t488 _ ?side1 A2.out).mono ?_); (case side1 => repeat (first | exact (Kd.C_below HRG0.out HB.out) | (with_reducible refine Kd.C_alloc ?_ _) | (with_reducible refine Kd.C_drewN ?_ _) | (with_reducible refine Kd.C_drew ?_))); rintro e w96 ⟨rfl, hb⟩; replace BK482 := sh_k BK482 hb; replace HB := sh_b (w := w) hb; (try clear hb); (try clear hb2); (try clear hk); (try clear hi)) | ((with_reducible refine gate_dst (N := 3) rfl ?_); refine sh_box 3 #[.int .i64 0, .int .i64 0, .int .i64 0, .bool false, .bool false] 26 ?_; intro gb489 hg w97 hbox hb; have GE489 := sh_z (w := w) hg; have NB482_489 := sh_n BK482 hg; have NB489_482 := sh_s NB482_489; replace BK482 := sh_k BK482 hb; replace HB := sh_b (w := w) hb; have BK489 := Aside0.mk (hbox); clear hb hbox hg; have hnb98 := NB489_482.out; have hnc98 := NB482_489.out; have hcz99 := blk_all5 BK489.out))
  repeat (go_quiet (first | ((with_reducible refine gate_dst (N := 1) rfl ?_); refine sh_box 1 #[.int .u8 a0_0, .int .u8 a0_1, .int .u8 a0_2, .int .i16 a0_3, .int .i32 a0_4] 24 ?_; intro gb482 hg w94 hbox hb; have GE482 := sh_z (w := w) hg; replace HB := sh_b (w := w) hb; have BK482 := Aside0.mk (hbox); clear hb hbox hg; have hcz95 := blk_all5 BK482.out) | (go_at_call 12; (with_reducible refine (insn_Of.calls k a0_0 a0_1 a0_2 a0_3 a0_4 t483 t484 t485 t486 t487 t488 _ ?side1 A2.out).mono ?_); (case side1 => repeat (first | exact (Kd.C_below HRG0.out HB.out) | (with_reducible refine Kd.C_alloc ?_ _) | (with_reducible refine Kd.C_drewN ?_ _) | (with_reducible refine Kd.C_drew ?_))); rintro e w96 ⟨rfl, hb⟩; replace BK482 := sh_k BK482 hb; replace HB := sh_b (w := w) hb; (try clear hb); (try clear hb2); (try clear hk); (try clear hi)) | ((with_reducible refine gate_dst (N := 3) rfl ?_); refine sh_box 3 #[.int .i64 0, .int .i64 0, .int .i64 0, .bool false, .bool false] 26 ?_; intro gb489 hg w97 hbox hb; have GE489 := sh_z (w := w) hg; have NB482_489 := sh_n BK482 hg; have NB489_482 := sh_s NB482_489; replace BK482 := sh_k BK482 hb; replace HB := sh_b (w := w) hb; have BK489 := Aside0.mk (hbox); clear hb hbox hg; have hnb98 := NB489_482.out; have hnc98 := NB482_489.out; have hcz99 := blk_all5 BK489.out)); try go_wp2_with (first | ((with_reducible refine gate_dst (N := 1) rfl ?_); refine sh_box 1 #[.int .u8 a0_0, .int .u8 a0_1, .int .u8 a0_2, .int .i16 a0_3, .int .i32 a0_4] 24 ?_; intro gb482 hg w94 hbox hb; have GE482 := sh_z (w := w) hg; replace HB := sh_b (w := w) hb; have BK482 := Aside0.mk (hbox); clear hb hbox hg; have hcz95 := blk_all5 BK482.out) | (go_at_call 12; (with_reducible refine (insn_Of.calls k a0_0 a0_1 a0_2 a0_3 a0_4 t483 t484 t485 t486 t487 t488 _ ?side1 A2.out).mono ?_); (case side1 => repeat (first | exact (Kd.C_below HRG0.out HB.out) | (with_reducible refine Kd.C_alloc ?_ _) | (with_reducible refine Kd.C_drewN ?_ _) | (with_reducible refine Kd.C_drew ?_))); rintro e w96 ⟨rfl, hb⟩; replace BK482 := sh_k BK482 hb; replace HB := sh_b (w := w) hb; (try clear hb); (try clear hb2); (try clear hk); (try clear hi)) | ((with_reducible refine gate_dst (N := 3) rfl ?_); refine sh_box 3 #[.int .i64 0, .int .i64 0, .int .i64 0, .bool false, .bool false] 26 ?_; intro gb489 hg w97 hbox hb; have GE489 := sh_z (w := w) hg; have NB482_489 := sh_n BK482 hg; have NB489_482 := sh_s NB482_489; replace BK482 := sh_k BK482 hb; replace HB := sh_b (w := w) hb; have BK489 := Aside0.mk (hbox); clear hb hbox hg; have hnb98 := NB489_482.out; have hnc98 := NB482_489.out; have hcz99 := blk_all5 BK489.out)))
  go_ret
  exact ⟨_, ret_now, by first | exact Kd.R_nil _ _ _ _ _ | exact Kd.N_nil _ _ _ _ _ | exact Kd.V_nil _ _ _ _ _ | exact Kd.Q_nil _ _ _ _ _ | exact Kd.S_nil _ _ _ _ _, b_now⟩

end Go.Proofs.YtkojjjdeacdabaaDoor.P
