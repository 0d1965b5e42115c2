/- Made by this session's driver over the kit's printer: for each Go function a Lean function with the same answers, and a proof that the Go call comes to these answers; no conditions but the ones each theorem names. -/
import Derived.Test.YtkojjjdeacdabaaDoorPx0
import Derived.Test.YtkojjjdeacdabaaDoorPx1
import Derived.Test.YtkojjjdeacdabaaDoorPx10
import Derived.Test.YtkojjjdeacdabaaDoorPx14
import Derived.Test.YtkojjjdeacdabaaDoorPx15
namespace Go.Proofs.YtkojjjdeacdabaaDoor.P
open Go.RowKit Go.Proofs.YtkojjjdeacdabaaDoorW.PrintWords Go.Proofs.YtkojjjdeacdabaaDoorW.PrintLast Go.Proofs.YtkojjjdeacdabaaDoorW.PrintMore
attribute [local go_sem] max2_int min2_int max_two min_two max_three min_three max_four min_four   -- for this text's walks alone
set_option linter.unusedVariables false
set_option linter.unusedSimpArgs false

attribute [local go_sem high] eqA24
/-! ### stockadelaw02_InsnMakes: function 7 -/
def stockadelaw02_InsnMakes.f (k : Nat) (a0_0 : Int) (a0_1 : Int) (a0_2 : Int) (a0_3 : Bool) (a0_4 : Bool) (a1_0 : Int) (a1_1 : Int) (a1_2 : Int) (a1_3 : Int) (a1_4 : Int) : Option (Bool) := (stockadelaw02_what.f a0_0 a0_1 a0_2 a0_3 a0_4).bind fun bt419 => ((insn_Make.f k bt419.1 bt419.2.1 bt419.2.2.1 bt419.2.2.2.1 bt419.2.2.2.2 a1_0 a1_1 a1_2 a1_3 a1_4).bind fun bt424 => ((stockaderef02_Make.f k a0_0 a0_1 a0_2 a0_3 a0_4 a1_0 a1_1 a1_2 a1_3 a1_4).bind fun bt431 => (if bt424.2.2.2.2.2 = bt431.2.2.2.2.2 then (if (bt424.1 == bt431.1 && (bt424.2.1 == bt431.2.1 && (bt424.2.2.1 == bt431.2.2.1 && (bt424.2.2.2.1 == bt431.2.2.2.1 && (bt424.2.2.2.2.1 == bt431.2.2.2.2.1))))) = true then ((stockadelaw02_wakes.f k).bind fun t438 => (some t438)) else (some false)) else (some false))))
theorem stockadelaw02_InsnMakes.mono : ∀ a0 a1 a2 a3 a4 a5 a6 a7 a8 a9 k, LeO (stockadelaw02_InsnMakes.f k a0 a1 a2 a3 a4 a5 a6 a7 a8 a9) (stockadelaw02_InsnMakes.f (k + 1) a0 a1 a2 a3 a4 a5 a6 a7 a8 a9) := by
 intro a0 a1 a2 a3 a4 a5 a6 a7 a8 a9 k
 unfold stockadelaw02_InsnMakes.f
 repeat' first
   | (with_reducible exact insn_Make.mono _ _ _ _ _ _ _ _ _ _ _)
   | (with_reducible exact stockadelaw02_wakes.mono _)
   | (with_reducible exact stockaderef02_Make.mono _ _ _ _ _ _ _ _ _ _ _)
   | (with_reducible exact LeO.refl _)
   | (with_reducible exact LeO.none _)
   | (with_reducible refine LeO.ite ?_ ?_)
   | (with_reducible refine LeO.bind ?_ (fun _ => ?_))
   | exact insn_Make.mono _ _ _ _ _ _ _ _ _ _ _
   | exact stockadelaw02_wakes.mono _
   | exact stockaderef02_Make.mono _ _ _ _ _ _ _ _ _ _ _
   | exact LeO.none _
   | refine LeO.ite ?_ ?_
   | refine LeO.bind ?_ (fun _ => ?_)
def stockadelaw02_InsnMakes.T1 : Bool × List (List Nat × List Nat) := (true, [([], []), ([0], [0]), ([], []), ([1, 2, 1], [1, 2]), ([3], [3]), ([4], [4]), ([4], [4]), ([], []), ([7, 5, 3, 0, 1, 2, 3, 4, 5, 7], [5, 7]), ([6, 8, 0, 1, 2, 3, 4, 5, 6, 7, 8], [6])])
def stockadelaw02_InsnMakes.B1 : List Nat := [0, 1, 0, 7, 15, 31, 31, 0, 191, 511]
theorem stockadelaw02_InsnMakes.tab1 : rtab .any (opsOf Tryd.f7 1) = stockadelaw02_InsnMakes.T1 := by kernel_rfl
theorem stockadelaw02_InsnMakes.bits1 : waitsOk stockadelaw02_InsnMakes.T1.2 stockadelaw02_InsnMakes.B1 = true := by kernel_rfl
set_option maxHeartbeats 8000000 in
set_option maxRecDepth 100000 in
theorem stockadelaw02_InsnMakes.calls (k : Nat) (a0_0 : Int) (a0_1 : Int) (a0_2 : Int) (a0_3 : Bool) (a0_4 : Bool) (a1_0 : Int) (a1_1 : Int) (a1_2 : Int) (a1_3 : Int) (a1_4 : Int) (r : Bool) (w : World) (hrG0 : Kd.C (Kd.int .i64) w (some ⟨0, 0, none⟩) gl0.length gl0) (hr_ : r = true) (h : stockadelaw02_InsnMakes.f k a0_0 a0_1 a0_2 a0_3 a0_4 a1_0 a1_1 a1_2 a1_3 a1_4 = some r) :
  Calls Tryd.prog 7 #[.agg #[.int .i64 a0_0, .int .i64 a0_1, .int .i64 a0_2, .bool a0_3, .bool a0_4], .agg #[.int .u8 a1_0, .int .u8 a1_1, .int .u8 a1_2, .int .i16 a1_3, .int .i32 a1_4]] w fun e w' => e = .returned (.bool r) ∧ Below w.heap.size w w' := by
 have hu30 := Tryd.underlying30
 have hu24 := Tryd.underlying24
 have HRG0 := Aside0.mk hrG0
 clear hrG0
 have HRT := Aside0.mk hr_
 clear hr_
 have HB := Aside0.mk (Below.refl w.heap.size w)
 have H : ((stockadelaw02_what.f a0_0 a0_1 a0_2 a0_3 a0_4).bind fun bt419 => ((insn_Make.f k bt419.1 bt419.2.1 bt419.2.2.1 bt419.2.2.2.1 bt419.2.2.2.2 a1_0 a1_1 a1_2 a1_3 a1_4).bind fun bt424 => ((stockaderef02_Make.f k a0_0 a0_1 a0_2 a0_3 a0_4 a1_0 a1_1 a1_2 a1_3 a1_4).bind fun bt431 => (if bt424.2.2.2.2.2 = bt431.2.2.2.2.2 then (if (bt424.1 == bt431.1 && (bt424.2.1 == bt431.2.1 && (bt424.2.2.1 == bt431.2.2.1 && (bt424.2.2.2.1 == bt431.2.2.2.1 && (bt424.2.2.2.2.1 == bt431.2.2.2.2.1))))) = true then ((stockadelaw02_wakes.f k).bind fun t438 => (some t438)) else (some false)) else (some false))))) = some r := h
 clear h
 replace H := Option.bind_eq_some_iff.mp H; obtain ⟨⟨t419, t420, t421, t422, t423⟩, A30, H⟩ := H; try dsimp only at H
 have A3 := Aside0.mk A30
 clear A30
 replace H := Option.bind_eq_some_iff.mp H; obtain ⟨⟨t424, t425, t426, t427, t428, t429⟩, A40, H⟩ := H; try dsimp only at H
 have A4 := Aside0.mk A40
 clear A40
 replace H := Option.bind_eq_some_iff.mp H; obtain ⟨⟨t431, t432, t433, t434, t435, t436⟩, A50, H⟩ := H; try dsimp only at H
 have A5 := Aside0.mk A50
 clear A50
 by_cases c6 : t429 = t436
 ·rw [if_pos c6] at H
  have c6b0 : (t429 == t436) = true := beq_iff_eq.mpr c6
  have c6b1 : (t429 != t436) = false := bne_eq_false_iff_eq.mpr c6
  clear c6
  by_cases c7 : (t424 == t431 && (t425 == t432 && (t426 == t433 && (t427 == t434 && (t428 == t435))))) = true
  ·rw [if_pos c7] at H
   have c7b0 : (t424 == t431 && (t425 == t432 && (t426 == t433 && (t427 == t434 && (t428 == t435))))) = true := c7
   (try (have c7b1 : decide (t424 = t431 && (t425 == t432 && (t426 == t433 && (t427 == t434 && (t428 == t435))))) = true := by simpa using c7))
   (try (have c7b2 : (t424 == t431 && (t425 == t432 && (t426 == t433 && (t427 == t434 && (t428 == t435))))) = true := by simpa using c7))
   clear c7
   replace H := Option.bind_eq_some_iff.mp H; obtain ⟨t438, A80, H⟩ := H; try dsimp only at H
   have A8 := Aside0.mk A80
   clear A80
   obtain rfl := Option.some.inj H
   go_enter Tryd.func7, Tryd.ntmps7
   try go_wp2_with (first | ((with_reducible refine gate_dst (N := 2) rfl ?_); refine sh_box 2 #[.int .i64 a0_0, .int .i64 a0_1, .int .i64 a0_2, .bool a0_3, .bool a0_4] 30 ?_; intro gb417 hg w9 hbox hb; have GE417 := sh_z (w := w) hg; replace HB := sh_b (w := w) hb; have BK417 := Aside0.mk (hbox); clear hb hbox hg) | ((with_reducible refine gate_dst (N := 3) rfl ?_); refine sh_box 3 #[.int .u8 a1_0, .int .u8 a1_1, .int .u8 a1_2, .int .i16 a1_3, .int .i32 a1_4] 24 ?_; intro gb418 hg w10 hbox hb; have GE418 := sh_z (w := w) hg; have NB417_418 := sh_n BK417 hg; have NB418_417 := sh_s NB417_418; replace BK417 := sh_k BK417 hb; replace HB := sh_b (w := w) hb; have BK418 := Aside0.mk (hbox); clear hb hbox hg))
   have n0_ := Aside0.mk (blk_drew BK417.out)
   have n1_ := Aside0.mk (blk_drew BK418.out)
   have n2_ := Aside0.mk (below_drew1 HB.out)
   clear BK417
   clear BK418
   clear HB
   have BK417 := n0_
   have BK418 := n1_
   have HB := n2_
   clear n0_ n1_ n2_
   refine start_ (n := 10) (S := fun w' => w'.cell? ⟨gb417, 0, none⟩ = some (.int .i64 a0_0) ∧ w'.cell? ⟨gb417, 1, none⟩ = some (.int .i64 a0_1) ∧ w'.cell? ⟨gb417, 2, none⟩ = some (.int .i64 a0_2) ∧ w'.cell? ⟨gb417, 3, none⟩ = some (.bool a0_3) ∧ w'.cell? ⟨gb417, 4, none⟩ = some (.bool a0_4) ∧ w'.cell? ⟨gb418, 0, none⟩ = some (.int .u8 a1_0) ∧ w'.cell? ⟨gb418, 1, none⟩ = some (.int .u8 a1_1) ∧ w'.cell? ⟨gb418, 2, none⟩ = some (.int .u8 a1_2) ∧ w'.cell? ⟨gb418, 3, none⟩ = some (.int .i16 a1_3) ∧ w'.cell? ⟨gb418, 4, none⟩ = some (.int .i32 a1_4)) (ds := []) #[false, false, false, false, false, false, false, false, false, false] (by kernel_rfl) rfl rfl ⟨(blk_cell BK417.out 0).trans rfl, (blk_cell BK417.out 1).trans rfl, (blk_cell BK417.out 2).trans rfl, (blk_cell BK417.out 3).trans rfl, (blk_cell BK417.out 4).trans rfl, (blk_cell BK418.out 0).trans rfl, (blk_cell BK418.out 1).trans rfl, (blk_cell BK418.out 2).trans rfl, (blk_cell BK418.out 3).trans rfl, (blk_cell BK418.out 4).trans rfl⟩ (fun hHeld => ?_); refine with_tabW stockadelaw02_InsnMakes.tab1 stockadelaw02_InsnMakes.bits1 (fun HT_ HW_ => ?_)
   generalize w10.drew = w11 at BK417 BK418 HB hHeld ⊢
   refine take_ (i := 0) (N := some 10) (v := ?_) (a' := ?_) #[true, false, false, false, false, false, false, false, false, false] rfl rfl (take_ofW HT_.out HW_.out (by kernel_rfl)) (fun _ _ _ h => h) (Or.inl ⟨by rfl, ?_⟩) hHeld ?_ ?_
   rotate_left
   ·rintro w' ⟨s0, s1, s2, s3, s4, s5, s6, s7, s8, s9⟩
    go_simp
    with_reducible rfl
   rotate_left
   ·simp only [Act.put, List.setIfInBounds_toArray, List.set_cons_zero, List.set_cons_succ, i64_w, i32_w]
    rfl
   refine take_ (i := 2) (N := some 12) (v := ?_) (a' := ?_) #[true, false, true, false, false, false, false, false, false, false] rfl rfl (take_ofW HT_.out HW_.out (by kernel_rfl)) (fun _ _ _ h => h) (Or.inl ⟨by rfl, ?_⟩) hHeld ?_ ?_
   rotate_left
   ·rintro w' ⟨s0, s1, s2, s3, s4, s5, s6, s7, s8, s9⟩
    go_simp
    with_reducible rfl
   rotate_left
   ·simp only [Act.put, List.setIfInBounds_toArray, List.set_cons_zero, List.set_cons_succ, i64_w, i32_w]
    rfl
   refine join_ (σ := Nat) 2 #[true, true, true, true, true, true, true, true, false, false] (fun s_ => [(11, .agg #[.int .i64 t419, .int .i64 t420, .int .i64 t421, .bool t422, .bool t423]), (13, .tuple #[.agg #[.int .u8 t424, .int .u8 t425, .int .u8 t426, .int .i16 t427, .int .i32 t428], .int .i64 t429]), (5, .pointer (some ⟨s_, 0, none⟩)), (9, .tuple #[.agg #[.int .u8 t424, .int .u8 t425, .int .u8 t426, .int .i16 t427, .int .i32 t428], .int .i64 t429]), (14, .agg #[.int .u8 t424, .int .u8 t425, .int .u8 t426, .int .i16 t427, .int .i32 t428]), (15, .int .i64 t429)]) (fun s_ w' => (w'.cell? ⟨gb417, 0, none⟩ = some (.int .i64 a0_0) ∧ w'.cell? ⟨gb417, 1, none⟩ = some (.int .i64 a0_1) ∧ w'.cell? ⟨gb417, 2, none⟩ = some (.int .i64 a0_2) ∧ w'.cell? ⟨gb417, 3, none⟩ = some (.bool a0_3) ∧ w'.cell? ⟨gb417, 4, none⟩ = some (.bool a0_4) ∧ w'.cell? ⟨gb418, 0, none⟩ = some (.int .u8 a1_0) ∧ w'.cell? ⟨gb418, 1, none⟩ = some (.int .u8 a1_1) ∧ w'.cell? ⟨gb418, 2, none⟩ = some (.int .u8 a1_2) ∧ w'.cell? ⟨gb418, 3, none⟩ = some (.int .i16 a1_3) ∧ w'.cell? ⟨gb418, 4, none⟩ = some (.int .i32 a1_4)) ∧ (w'.heap[gb417]? = some (.cells #[.int .i64 a0_0, .int .i64 a0_1, .int .i64 a0_2, .bool a0_3, .bool a0_4] 30 (0, 0))) ∧ (w'.heap[gb418]? = some (.cells #[.int .u8 a1_0, .int .u8 a1_1, .int .u8 a1_2, .int .i16 a1_3, .int .i32 a1_4] 24 (0, 0))) ∧ (w'.heap[s_]? = some (.cells #[.int .u8 0, .int .u8 0, .int .u8 0, .int .i16 0, .int .i32 0] 24 (0, 0))) ∧ (w.heap.size ≤ s_) ∧ (w.heap.size ≤ s_) ∧ (gb417 ≠ s_) ∧ (s_ ≠ gb417) ∧ (gb418 ≠ s_) ∧ (s_ ≠ gb418) ∧ (Below w.heap.size w w')) ?_ ?_
   rotate_left
   ·intro hCont
    refine two_ (i := 1) (j := 7) (Ni := some 11) (Nj := some 5) #[true, true, true, false, false, false, false, false, false, false] #[true, false, true, false, false, false, false, true, false, false] rfl rfl rfl rfl (two_of HT_.out (by kernel_rfl)) (by decide) (by decide) (fun K hK => ?_) (fun K hK => ?_)
    ·skip
     refine goes_ Tryd.func22 (by kernel_rfl) rfl #[.agg #[.int .i64 a0_0, .int .i64 a0_1, .int .i64 a0_2, .bool a0_3, .bool a0_4]] (by rfl) rfl rfl (by (try simp only [List.map_toArray, List.map_cons, List.map_nil]); first | done | rfl | (simp only [List.length_drop, List.length_take]; rfl)) ?_
     with_reducible refine (stockadelaw02_what.calls a0_0 a0_1 a0_2 a0_3 a0_4 t419 t420 t421 t422 t423 _ A3.out).mono ?_
     rintro e w12 ⟨rfl, hb⟩
     refine ⟨_, rfl, ?_⟩
     have n0_ := Aside0.mk (blk_below (g := gb417) (o := .cells #[.int .i64 a0_0, .int .i64 a0_1, .int .i64 a0_2, .bool a0_3, .bool a0_4] 30 (0, 0)) bk_now hb)
     have n1_ := Aside0.mk (blk_below (g := gb418) (o := .cells #[.int .u8 a1_0, .int .u8 a1_1, .int .u8 a1_2, .int .i16 a1_3, .int .i32 a1_4] 24 (0, 0)) bk_now hb)
     have n2_ := Aside0.mk (below_step b_now hb)
     clear BK417
     clear BK418
     clear HB
     have BK417 := n0_
     have BK418 := n1_
     have HB := n2_
     clear n0_ n1_ n2_
     (try clear hb)
     (try clear hb2)
     (try clear hk)
     (try clear hi)
     refine hK.out _ _ ⟨(blk_cell BK417.out 0).trans rfl, (blk_cell BK417.out 1).trans rfl, (blk_cell BK417.out 2).trans rfl, (blk_cell BK417.out 3).trans rfl, (blk_cell BK417.out 4).trans rfl, (blk_cell BK418.out 0).trans rfl, (blk_cell BK418.out 1).trans rfl, (blk_cell BK418.out 2).trans rfl, (blk_cell BK418.out 3).trans rfl, (blk_cell BK418.out 4).trans rfl⟩ (fun hHeld => ?_)
     clear hK K
     refine norm_ (a' := ?_) ?_ ?_
     rotate_left
     ·show Act.put _ (some 11) _ = _
      simp only [Act.put, List.setIfInBounds_toArray, List.set_cons_zero, List.set_cons_succ, i64_w, i32_w]
      rfl
     refine two_ (i := 3) (j := 7) (Ni := some 13) (Nj := some 5) #[true, true, true, true, false, false, false, false, false, false] #[true, true, true, false, false, false, false, true, false, false] rfl rfl rfl rfl (two_of HT_.out (by kernel_rfl)) (by decide) (by decide) (fun K hK => ?_) (fun K hK => ?_)
     ·skip
      refine goes_ Tryd.func21 (by kernel_rfl) rfl #[.agg #[.int .i64 t419, .int .i64 t420, .int .i64 t421, .bool t422, .bool t423], .agg #[.int .u8 a1_0, .int .u8 a1_1, .int .u8 a1_2, .int .i16 a1_3, .int .i32 a1_4]] (by rfl) rfl rfl (by (try simp only [List.map_toArray, List.map_cons, List.map_nil]); first | done | rfl | (simp only [List.length_drop, List.length_take]; rfl)) ?_
      with_reducible refine (insn_Make.calls k t419 t420 t421 t422 t423 a1_0 a1_1 a1_2 a1_3 a1_4 t424 t425 t426 t427 t428 t429 _ ?side1 A4.out).mono ?_
      (case side1 => repeat (first | exact (Kd.C_below HRG0.out HB.out) | (with_reducible refine Kd.C_alloc ?_ _) | (with_reducible refine Kd.C_drewN ?_ _) | (with_reducible refine Kd.C_drew ?_)))
      rintro e w13 ⟨rfl, hb⟩
      refine ⟨_, rfl, ?_⟩
      have n0_ := Aside0.mk (blk_below (g := gb417) (o := .cells #[.int .i64 a0_0, .int .i64 a0_1, .int .i64 a0_2, .bool a0_3, .bool a0_4] 30 (0, 0)) bk_now hb)
      have n1_ := Aside0.mk (blk_below (g := gb418) (o := .cells #[.int .u8 a1_0, .int .u8 a1_1, .int .u8 a1_2, .int .i16 a1_3, .int .i32 a1_4] 24 (0, 0)) bk_now hb)
      have n2_ := Aside0.mk (below_step b_now hb)
      clear BK417
      clear BK418
      clear HB
      have BK417 := n0_
      have BK418 := n1_
      have HB := n2_
      clear n0_ n1_ n2_
      (try clear hb)
      (try clear hb2)
      (try clear hk)
      (try clear hi)
      refine hK.out _ _ ⟨(blk_cell BK417.out 0).trans rfl, (blk_cell BK417.out 1).trans rfl, (blk_cell BK417.out 2).trans rfl, (blk_cell BK417.out 3).trans rfl, (blk_cell BK417.out 4).trans rfl, (blk_cell BK418.out 0).trans rfl, (blk_cell BK418.out 1).trans rfl, (blk_cell BK418.out 2).trans rfl, (blk_cell BK418.out 3).trans rfl, (blk_cell BK418.out 4).trans rfl⟩ (fun hHeld => ?_)
      clear hK K
      refine norm_ (a' := ?_) ?_ ?_
      rotate_left
      ·show Act.put _ (some 13) _ = _
       simp only [Act.put, List.setIfInBounds_toArray, List.set_cons_zero, List.set_cons_succ, i64_w, i32_w]
       rfl
      refine pure_ (i := 4) (N := some 9) (v := ?_) (a' := ?_) #[true, true, true, true, true, false, false, false, false, false] rfl rfl (any_of HT_.out (by kernel_rfl)) (fun _ _ _ h => h) (Or.inl ⟨by rfl, ?_⟩) ?_ ?_
      rotate_left
      ·intro w'
       go_simp
       with_reducible rfl
      rotate_left
      ·simp only [Act.put, List.setIfInBounds_toArray, List.set_cons_zero, List.set_cons_succ, i64_w, i32_w]
       rfl
      refine pure_ (i := 5) (N := some 14) (v := ?_) (a' := ?_) #[true, true, true, true, true, true, false, false, false, false] rfl rfl (any_of HT_.out (by kernel_rfl)) (fun _ _ _ h => h) (Or.inl ⟨by rfl, ?_⟩) ?_ ?_
      rotate_left
      ·intro w'
       go_simp
       with_reducible rfl
      rotate_left
      ·simp only [Act.put, List.setIfInBounds_toArray, List.set_cons_zero, List.set_cons_succ, i64_w, i32_w]
       rfl
      refine pure_ (i := 6) (N := some 15) (v := ?_) (a' := ?_) #[true, true, true, true, true, true, true, false, false, false] rfl rfl (any_of HT_.out (by kernel_rfl)) (fun _ _ _ h => h) (Or.inl ⟨by rfl, ?_⟩) ?_ ?_
      rotate_left
      ·intro w'
       go_simp
       with_reducible rfl
      rotate_left
      ·simp only [Act.put, List.setIfInBounds_toArray, List.set_cons_zero, List.set_cons_succ, i64_w, i32_w]
       rfl
      refine one_ (i := 7) (N := some 5) #[true, true, true, true, true, true, true, true, false, false] rfl rfl (one_of HT_.out (by kernel_rfl)) (by decide) (fun K hK => ?_)
      refine box_step ?hg (N := 5) ?hd (cs := #[.int .u8 0, .int .u8 0, .int .u8 0, .int .i16 0, .int .i32 0]) (t := 24) ?hr ?_; (case hd => rfl); (case hg => rfl); (case hr => first | (go_simp; done) | (go_simp; rfl))
      intro gb430 hg w14 hbox hb
      have n0_ := Aside0.mk (blk_below (g := gb417) (o := .cells #[.int .i64 a0_0, .int .i64 a0_1, .int .i64 a0_2, .bool a0_3, .bool a0_4] 30 (0, 0)) bk_now hb)
      have n1_ := Aside0.mk (blk_below (g := gb418) (o := .cells #[.int .u8 a1_0, .int .u8 a1_1, .int .u8 a1_2, .int .i16 a1_3, .int .i32 a1_4] 24 (0, 0)) bk_now hb)
      have n2_ := Aside0.mk (below_step b_now hb)
      have n3_ := Aside0.mk (hbox)
      have n4_ := Aside0.mk ((by rw [hg]; exact (below_size b_now) : w.heap.size ≤ gb430))
      have n5_ := Aside0.mk ((by rw [hg]; exact (below_size b_now) : w.heap.size ≤ gb430))
      have n6_ := Aside0.mk ((by rw [hg]; exact Nat.ne_of_lt (blk_lt (g := gb417) (o := .cells #[.int .i64 a0_0, .int .i64 a0_1, .int .i64 a0_2, .bool a0_3, .bool a0_4] 30 (0, 0)) bk_now) : gb417 ≠ gb430))
      have n7_ := Aside0.mk ((by rw [hg]; exact Nat.ne_of_gt (blk_lt (g := gb417) (o := .cells #[.int .i64 a0_0, .int .i64 a0_1, .int .i64 a0_2, .bool a0_3, .bool a0_4] 30 (0, 0)) bk_now) : gb430 ≠ gb417))
      have n8_ := Aside0.mk ((by rw [hg]; exact Nat.ne_of_lt (blk_lt (g := gb418) (o := .cells #[.int .u8 a1_0, .int .u8 a1_1, .int .u8 a1_2, .int .i16 a1_3, .int .i32 a1_4] 24 (0, 0)) bk_now) : gb418 ≠ gb430))
      have n9_ := Aside0.mk ((by rw [hg]; exact Nat.ne_of_gt (blk_lt (g := gb418) (o := .cells #[.int .u8 a1_0, .int .u8 a1_1, .int .u8 a1_2, .int .i16 a1_3, .int .i32 a1_4] 24 (0, 0)) bk_now) : gb430 ≠ gb418))
      clear BK417
      clear BK418
      clear HB
      have BK417 := n0_
      have BK418 := n1_
      have HB := n2_
      have BK430 := n3_
      have GW430 := n4_
      have GE430 := n5_
      have NB417_430 := n6_
      have NB430_417 := n7_
      have NB418_430 := n8_
      have NB430_418 := n9_
      clear n0_ n1_ n2_ n3_ n4_ n5_ n6_ n7_ n8_ n9_
      clear hb hbox hg
      refine hK.out _ _ ⟨(blk_cell BK417.out 0).trans rfl, (blk_cell BK417.out 1).trans rfl, (blk_cell BK417.out 2).trans rfl, (blk_cell BK417.out 3).trans rfl, (blk_cell BK417.out 4).trans rfl, (blk_cell BK418.out 0).trans rfl, (blk_cell BK418.out 1).trans rfl, (blk_cell BK418.out 2).trans rfl, (blk_cell BK418.out 3).trans rfl, (blk_cell BK418.out 4).trans rfl⟩ (fun hHeld => ?_)
      clear hK K
      refine norm_ (a' := ?_) ?_ ?_
      rotate_left
      ·show Act.put _ (some 5) _ = _
       simp only [Act.put, List.setIfInBounds_toArray, List.set_cons_zero, List.set_cons_succ, i64_w, i32_w]
       rfl
      exact norm_ (by simp only [putAll, Act.put, List.setIfInBounds_toArray, List.set_cons_zero, List.set_cons_succ]) (hCont (gb430) _ ⟨hHeld, bk_now, bk_now, bk_now, GW430.out, GE430.out, NB417_430.out, NB430_417.out, NB418_430.out, NB430_418.out, b_now⟩)
     ·skip
      refine box_step ?hg (N := 5) ?hd (cs := #[.int .u8 0, .int .u8 0, .int .u8 0, .int .i16 0, .int .i32 0]) (t := 24) ?hr ?_; (case hd => rfl); (case hg => rfl); (case hr => first | (go_simp; done) | (go_simp; rfl))
      intro gb430 hg w13 hbox hb
      have n0_ := Aside0.mk (blk_below (g := gb417) (o := .cells #[.int .i64 a0_0, .int .i64 a0_1, .int .i64 a0_2, .bool a0_3, .bool a0_4] 30 (0, 0)) bk_now hb)
      have n1_ := Aside0.mk (blk_below (g := gb418) (o := .cells #[.int .u8 a1_0, .int .u8 a1_1, .int .u8 a1_2, .int .i16 a1_3, .int .i32 a1_4] 24 (0, 0)) bk_now hb)
      have n2_ := Aside0.mk (below_step b_now hb)
      have n3_ := Aside0.mk (hbox)
      have n4_ := Aside0.mk ((by rw [hg]; exact (below_size b_now) : w.heap.size ≤ gb430))
      have n5_ := Aside0.mk ((by rw [hg]; exact (below_size b_now) : w.heap.size ≤ gb430))
      have n6_ := Aside0.mk ((by rw [hg]; exact Nat.ne_of_lt (blk_lt (g := gb417) (o := .cells #[.int .i64 a0_0, .int .i64 a0_1, .int .i64 a0_2, .bool a0_3, .bool a0_4] 30 (0, 0)) bk_now) : gb417 ≠ gb430))
      have n7_ := Aside0.mk ((by rw [hg]; exact Nat.ne_of_gt (blk_lt (g := gb417) (o := .cells #[.int .i64 a0_0, .int .i64 a0_1, .int .i64 a0_2, .bool a0_3, .bool a0_4] 30 (0, 0)) bk_now) : gb430 ≠ gb417))
      have n8_ := Aside0.mk ((by rw [hg]; exact Nat.ne_of_lt (blk_lt (g := gb418) (o := .cells #[.int .u8 a1_0, .int .u8 a1_1, .int .u8 a1_2, .int .i16 a1_3, .int .i32 a1_4] 24 (0, 0)) bk_now) : gb418 ≠ gb430))
      have n9_ := Aside0.mk ((by rw [hg]; exact Nat.ne_of_gt (blk_lt (g := gb418) (o := .cells #[.int .u8 a1_0, .int .u8 a1_1, .int .u8 a1_2, .int .i16 a1_3, .int .i32 a1_4] 24 (0, 0)) bk_now) : gb430 ≠ gb418))
      clear BK417
      clear BK418
      clear HB
      have BK417 := n0_
      have BK418 := n1_
      have HB := n2_
      have BK430 := n3_
      have GW430 := n4_
      have GE430 := n5_
      have NB417_430 := n6_
      have NB430_417 := n7_
      have NB418_430 := n8_
      have NB430_418 := n9_
      clear n0_ n1_ n2_ n3_ n4_ n5_ n6_ n7_ n8_ n9_
      clear hb hbox hg
      refine hK.out _ _ ⟨(blk_cell BK417.out 0).trans rfl, (blk_cell BK417.out 1).trans rfl, (blk_cell BK417.out 2).trans rfl, (blk_cell BK417.out 3).trans rfl, (blk_cell BK417.out 4).trans rfl, (blk_cell BK418.out 0).trans rfl, (blk_cell BK418.out 1).trans rfl, (blk_cell BK418.out 2).trans rfl, (blk_cell BK418.out 3).trans rfl, (blk_cell BK418.out 4).trans rfl⟩ (fun hHeld => ?_)
      clear hK K
      refine norm_ (a' := ?_) ?_ ?_
      rotate_left
      ·show Act.put _ (some 5) _ = _
       simp only [Act.put, List.setIfInBounds_toArray, List.set_cons_zero, List.set_cons_succ, i64_w, i32_w]
       rfl
      refine one_ (i := 3) (N := some 13) #[true, true, true, true, false, false, false, true, false, false] rfl rfl (one_of HT_.out (by kernel_rfl)) (by decide) (fun K hK => ?_)
      refine goes_ Tryd.func21 (by kernel_rfl) rfl #[.agg #[.int .i64 t419, .int .i64 t420, .int .i64 t421, .bool t422, .bool t423], .agg #[.int .u8 a1_0, .int .u8 a1_1, .int .u8 a1_2, .int .i16 a1_3, .int .i32 a1_4]] (by rfl) rfl rfl (by (try simp only [List.map_toArray, List.map_cons, List.map_nil]); first | done | rfl | (simp only [List.length_drop, List.length_take]; rfl)) ?_
      with_reducible refine (insn_Make.calls k t419 t420 t421 t422 t423 a1_0 a1_1 a1_2 a1_3 a1_4 t424 t425 t426 t427 t428 t429 _ ?side1 A4.out).mono ?_
      (case side1 => repeat (first | exact (Kd.C_below HRG0.out HB.out) | (with_reducible refine Kd.C_alloc ?_ _) | (with_reducible refine Kd.C_drewN ?_ _) | (with_reducible refine Kd.C_drew ?_)))
      rintro e w14 ⟨rfl, hb⟩
      refine ⟨_, rfl, ?_⟩
      have n0_ := Aside0.mk (blk_below (g := gb417) (o := .cells #[.int .i64 a0_0, .int .i64 a0_1, .int .i64 a0_2, .bool a0_3, .bool a0_4] 30 (0, 0)) bk_now hb)
      have n1_ := Aside0.mk (blk_below (g := gb418) (o := .cells #[.int .u8 a1_0, .int .u8 a1_1, .int .u8 a1_2, .int .i16 a1_3, .int .i32 a1_4] 24 (0, 0)) bk_now hb)
      have n2_ := Aside0.mk (blk_below (g := gb430) (o := .cells #[.int .u8 0, .int .u8 0, .int .u8 0, .int .i16 0, .int .i32 0] 24 (0, 0)) bk_now hb)
      have n3_ := Aside0.mk (below_step b_now hb)
      clear BK417
      clear BK418
      clear BK430
      clear HB
      have BK417 := n0_
      have BK418 := n1_
      have BK430 := n2_
      have HB := n3_
      clear n0_ n1_ n2_ n3_
      (try clear hb)
      (try clear hb2)
      (try clear hk)
      (try clear hi)
      refine hK.out _ _ ⟨(blk_cell BK417.out 0).trans rfl, (blk_cell BK417.out 1).trans rfl, (blk_cell BK417.out 2).trans rfl, (blk_cell BK417.out 3).trans rfl, (blk_cell BK417.out 4).trans rfl, (blk_cell BK418.out 0).trans rfl, (blk_cell BK418.out 1).trans rfl, (blk_cell BK418.out 2).trans rfl, (blk_cell BK418.out 3).trans rfl, (blk_cell BK418.out 4).trans rfl⟩ (fun hHeld => ?_)
      clear hK K
      refine norm_ (a' := ?_) ?_ ?_
      rotate_left
      ·show Act.put _ (some 13) _ = _
       simp only [Act.put, List.setIfInBounds_toArray, List.set_cons_zero, List.set_cons_succ, i64_w, i32_w]
       rfl
      refine pure_ (i := 4) (N := some 9) (v := ?_) (a' := ?_) #[true, true, true, true, true, false, false, true, false, false] rfl rfl (any_of HT_.out (by kernel_rfl)) (fun _ _ _ h => h) (Or.inl ⟨by rfl, ?_⟩) ?_ ?_
      rotate_left
      ·intro w'
       go_simp
       with_reducible rfl
      rotate_left
      ·simp only [Act.put, List.setIfInBounds_toArray, List.set_cons_zero, List.set_cons_succ, i64_w, i32_w]
       rfl
      refine pure_ (i := 5) (N := some 14) (v := ?_) (a' := ?_) #[true, true, true, true, true, true, false, true, false, false] rfl rfl (any_of HT_.out (by kernel_rfl)) (fun _ _ _ h => h) (Or.inl ⟨by rfl, ?_⟩) ?_ ?_
      rotate_left
      ·intro w'
       go_simp
       with_reducible rfl
      rotate_left
      ·simp only [Act.put, List.setIfInBounds_toArray, List.set_cons_zero, List.set_cons_succ, i64_w, i32_w]
       rfl
      refine pure_ (i := 6) (N := some 15) (v := ?_) (a' := ?_) #[true, true, true, true, true, true, true, true, false, false] rfl rfl (any_of HT_.out (by kernel_rfl)) (fun _ _ _ h => h) (Or.inl ⟨by rfl, ?_⟩) ?_ ?_
      rotate_left
      ·intro w'
       go_simp
       with_reducible rfl
      rotate_left
      ·simp only [Act.put, List.setIfInBounds_toArray, List.set_cons_zero, List.set_cons_succ, i64_w, i32_w]
       rfl
      exact norm_ (by simp only [putAll, Act.put, List.setIfInBounds_toArray, List.set_cons_zero, List.set_cons_succ]) (hCont (gb430) _ ⟨hHeld, bk_now, bk_now, bk_now, GW430.out, GE430.out, NB417_430.out, NB430_417.out, NB418_430.out, NB430_418.out, b_now⟩)
    ·skip
     refine box_step ?hg (N := 5) ?hd (cs := #[.int .u8 0, .int .u8 0, .int .u8 0, .int .i16 0, .int .i32 0]) (t := 24) ?hr ?_; (case hd => rfl); (case hg => rfl); (case hr => first | (go_simp; done) | (go_simp; rfl))
     intro gb430 hg w12 hbox hb
     have n0_ := Aside0.mk (blk_below (g := gb417) (o := .cells #[.int .i64 a0_0, .int .i64 a0_1, .int .i64 a0_2, .bool a0_3, .bool a0_4] 30 (0, 0)) bk_now hb)
     have n1_ := Aside0.mk (blk_below (g := gb418) (o := .cells #[.int .u8 a1_0, .int .u8 a1_1, .int .u8 a1_2, .int .i16 a1_3, .int .i32 a1_4] 24 (0, 0)) bk_now hb)
     have n2_ := Aside0.mk (below_step b_now hb)
     have n3_ := Aside0.mk (hbox)
     have n4_ := Aside0.mk ((by rw [hg]; exact (below_size b_now) : w.heap.size ≤ gb430))
     have n5_ := Aside0.mk ((by rw [hg]; exact (below_size b_now) : w.heap.size ≤ gb430))
     have n6_ := Aside0.mk ((by rw [hg]; exact Nat.ne_of_lt (blk_lt (g := gb417) (o := .cells #[.int .i64 a0_0, .int .i64 a0_1, .int .i64 a0_2, .bool a0_3, .bool a0_4] 30 (0, 0)) bk_now) : gb417 ≠ gb430))
     have n7_ := Aside0.mk ((by rw [hg]; exact Nat.ne_of_gt (blk_lt (g := gb417) (o := .cells #[.int .i64 a0_0, .int .i64 a0_1, .int .i64 a0_2, .bool a0_3, .bool a0_4] 30 (0, 0)) bk_now) : gb430 ≠ gb417))
     have n8_ := Aside0.mk ((by rw [hg]; exact Nat.ne_of_lt (blk_lt (g := gb418) (o := .cells #[.int .u8 a1_0, .int .u8 a1_1, .int .u8 a1_2, .int .i16 a1_3, .int .i32 a1_4] 24 (0, 0)) bk_now) : gb418 ≠ gb430))
     have n9_ := Aside0.mk ((by rw [hg]; exact Nat.ne_of_gt (blk_lt (g := gb418) (o := .cells #[.int .u8 a1_0, .int .u8 a1_1, .int .u8 a1_2, .int .i16 a1_3, .int .i32 a1_4] 24 (0, 0)) bk_now) : gb430 ≠ gb418))
     clear BK417
     clear BK418
     clear HB
     have BK417 := n0_
     have BK418 := n1_
     have HB := n2_
     have BK430 := n3_
     have GW430 := n4_
     have GE430 := n5_
     have NB417_430 := n6_
     have NB430_417 := n7_
     have NB418_430 := n8_
     have NB430_418 := n9_
     clear n0_ n1_ n2_ n3_ n4_ n5_ n6_ n7_ n8_ n9_
     clear hb hbox hg
     refine hK.out _ _ ⟨(blk_cell BK417.out 0).trans rfl, (blk_cell BK417.out 1).trans rfl, (blk_cell BK417.out 2).trans rfl, (blk_cell BK417.out 3).trans rfl, (blk_cell BK417.out 4).trans rfl, (blk_cell BK418.out 0).trans rfl, (blk_cell BK418.out 1).trans rfl, (blk_cell BK418.out 2).trans rfl, (blk_cell BK418.out 3).trans rfl, (blk_cell BK418.out 4).trans rfl⟩ (fun hHeld => ?_)
     clear hK K
     refine norm_ (a' := ?_) ?_ ?_
     rotate_left
     ·show Act.put _ (some 5) _ = _
      simp only [Act.put, List.setIfInBounds_toArray, List.set_cons_zero, List.set_cons_succ, i64_w, i32_w]
      rfl
     refine one_ (i := 1) (N := some 11) #[true, true, true, false, false, false, false, true, false, false] rfl rfl (one_of HT_.out (by kernel_rfl)) (by decide) (fun K hK => ?_)
     refine goes_ Tryd.func22 (by kernel_rfl) rfl #[.agg #[.int .i64 a0_0, .int .i64 a0_1, .int .i64 a0_2, .bool a0_3, .bool a0_4]] (by rfl) rfl rfl (by (try simp only [List.map_toArray, List.map_cons, List.map_nil]); first | done | rfl | (simp only [List.length_drop, List.length_take]; rfl)) ?_
     with_reducible refine (stockadelaw02_what.calls a0_0 a0_1 a0_2 a0_3 a0_4 t419 t420 t421 t422 t423 _ A3.out).mono ?_
     rintro e w13 ⟨rfl, hb⟩
     refine ⟨_, rfl, ?_⟩
     have n0_ := Aside0.mk (blk_below (g := gb417) (o := .cells #[.int .i64 a0_0, .int .i64 a0_1, .int .i64 a0_2, .bool a0_3, .bool a0_4] 30 (0, 0)) bk_now hb)
     have n1_ := Aside0.mk (blk_below (g := gb418) (o := .cells #[.int .u8 a1_0, .int .u8 a1_1, .int .u8 a1_2, .int .i16 a1_3, .int .i32 a1_4] 24 (0, 0)) bk_now hb)
     have n2_ := Aside0.mk (blk_below (g := gb430) (o := .cells #[.int .u8 0, .int .u8 0, .int .u8 0, .int .i16 0, .int .i32 0] 24 (0, 0)) bk_now hb)
     have n3_ := Aside0.mk (below_step b_now hb)
     clear BK417
     clear BK418
     clear BK430
     clear HB
     have BK417 := n0_
     have BK418 := n1_
     have BK430 := n2_
     have HB := n3_
     clear n0_ n1_ n2_ n3_
     (try clear hb)
     (try clear hb2)
     (try clear hk)
     (try clear hi)
     refine hK.out _ _ ⟨(blk_cell BK417.out 0).trans rfl, (blk_cell BK417.out 1).trans rfl, (blk_cell BK417.out 2).trans rfl, (blk_cell BK417.out 3).trans rfl, (blk_cell BK417.out 4).trans rfl, (blk_cell BK418.out 0).trans rfl, (blk_cell BK418.out 1).trans rfl, (blk_cell BK418.out 2).trans rfl, (blk_cell BK418.out 3).trans rfl, (blk_cell BK418.out 4).trans rfl⟩ (fun hHeld => ?_)
     clear hK K
     refine norm_ (a' := ?_) ?_ ?_
     rotate_left
     ·show Act.put _ (some 11) _ = _
      simp only [Act.put, List.setIfInBounds_toArray, List.set_cons_zero, List.set_cons_succ, i64_w, i32_w]
      rfl
     refine one_ (i := 3) (N := some 13) #[true, true, true, true, false, false, false, true, false, false] rfl rfl (one_of HT_.out (by kernel_rfl)) (by decide) (fun K hK => ?_)
     refine goes_ Tryd.func21 (by kernel_rfl) rfl #[.agg #[.int .i64 t419, .int .i64 t420, .int .i64 t421, .bool t422, .bool t423], .agg #[.int .u8 a1_0, .int .u8 a1_1, .int .u8 a1_2, .int .i16 a1_3, .int .i32 a1_4]] (by rfl) rfl rfl (by (try simp only [List.map_toArray, List.map_cons, List.map_nil]); first | done | rfl | (simp only [List.length_drop, List.length_take]; rfl)) ?_
     with_reducible refine (insn_Make.calls k t419 t420 t421 t422 t423 a1_0 a1_1 a1_2 a1_3 a1_4 t424 t425 t426 t427 t428 t429 _ ?side1 A4.out).mono ?_
     (case side1 => repeat (first | exact (Kd.C_below HRG0.out HB.out) | (with_reducible refine Kd.C_alloc ?_ _) | (with_reducible refine Kd.C_drewN ?_ _) | (with_reducible refine Kd.C_drew ?_)))
     rintro e w14 ⟨rfl, hb⟩
     refine ⟨_, rfl, ?_⟩
     have n0_ := Aside0.mk (blk_below (g := gb417) (o := .cells #[.int .i64 a0_0, .int .i64 a0_1, .int .i64 a0_2, .bool a0_3, .bool a0_4] 30 (0, 0)) bk_now hb)
     have n1_ := Aside0.mk (blk_below (g := gb418) (o := .cells #[.int .u8 a1_0, .int .u8 a1_1, .int .u8 a1_2, .int .i16 a1_3, .int .i32 a1_4] 24 (0, 0)) bk_now hb)
     have n2_ := Aside0.mk (blk_below (g := gb430) (o := .cells #[.int .u8 0, .int .u8 0, .int .u8 0, .int .i16 0, .int .i32 0] 24 (0, 0)) bk_now hb)
     have n3_ := Aside0.mk (below_step b_now hb)
     clear BK417
     clear BK418
     clear BK430
     clear HB
     have BK417 := n0_
     have BK418 := n1_
     have BK430 := n2_
     have HB := n3_
     clear n0_ n1_ n2_ n3_
     (try clear hb)
     (try clear hb2)
     (try clear hk)
     (try clear hi)
     refine hK.out _ _ ⟨(blk_cell BK417.out 0).trans rfl, (blk_cell BK417.out 1).trans rfl, (blk_cell BK417.out 2).trans rfl, (blk_cell BK417.out 3).trans rfl, (blk_cell BK417.out 4).trans rfl, (blk_cell BK418.out 0).trans rfl, (blk_cell BK418.out 1).trans rfl, (blk_cell BK418.out 2).trans rfl, (blk_cell BK418.out 3).trans rfl, (blk_cell BK418.out 4).trans rfl⟩ (fun hHeld => ?_)
     clear hK K
     refine norm_ (a' := ?_) ?_ ?_
     rotate_left
     ·show Act.put _ (some 13) _ = _
      simp only [Act.put, List.setIfInBounds_toArray, List.set_cons_zero, List.set_cons_succ, i64_w, i32_w]
      rfl
     refine pure_ (i := 4) (N := some 9) (v := ?_) (a' := ?_) #[true, true, true, true, true, false, false, true, false, false] rfl rfl (any_of HT_.out (by kernel_rfl)) (fun _ _ _ h => h) (Or.inl ⟨by rfl, ?_⟩) ?_ ?_
     rotate_left
     ·intro w'
      go_simp
      with_reducible rfl
     rotate_left
     ·simp only [Act.put, List.setIfInBounds_toArray, List.set_cons_zero, List.set_cons_succ, i64_w, i32_w]
      rfl
     refine pure_ (i := 5) (N := some 14) (v := ?_) (a' := ?_) #[true, true, true, true, true, true, false, true, false, false] rfl rfl (any_of HT_.out (by kernel_rfl)) (fun _ _ _ h => h) (Or.inl ⟨by rfl, ?_⟩) ?_ ?_
     rotate_left
     ·intro w'
      go_simp
      with_reducible rfl
     rotate_left
     ·simp only [Act.put, List.setIfInBounds_toArray, List.set_cons_zero, List.set_cons_succ, i64_w, i32_w]
      rfl
     refine pure_ (i := 6) (N := some 15) (v := ?_) (a' := ?_) #[true, true, true, true, true, true, true, true, false, false] rfl rfl (any_of HT_.out (by kernel_rfl)) (fun _ _ _ h => h) (Or.inl ⟨by rfl, ?_⟩) ?_ ?_
     rotate_left
     ·intro w'
      go_simp
      with_reducible rfl
     rotate_left
     ·simp only [Act.put, List.setIfInBounds_toArray, List.set_cons_zero, List.set_cons_succ, i64_w, i32_w]
      rfl
     exact norm_ (by simp only [putAll, Act.put, List.setIfInBounds_toArray, List.set_cons_zero, List.set_cons_succ]) (hCont (gb430) _ ⟨hHeld, bk_now, bk_now, bk_now, GW430.out, GE430.out, NB417_430.out, NB430_417.out, NB418_430.out, NB430_418.out, b_now⟩)
   rintro gb430 w15 ⟨hS_, h0_, h1_, h2_, h3_, h4_, h5_, h6_, h7_, h8_, h9_⟩
   have n0_ : Aside0 (w15.heap[gb417]? = some (.cells #[.int .i64 a0_0, .int .i64 a0_1, .int .i64 a0_2, .bool a0_3, .bool a0_4] 30 (0, 0))) := ⟨h0_⟩
   have n1_ : Aside0 (w15.heap[gb418]? = some (.cells #[.int .u8 a1_0, .int .u8 a1_1, .int .u8 a1_2, .int .i16 a1_3, .int .i32 a1_4] 24 (0, 0))) := ⟨h1_⟩
   have n2_ : Aside0 (w15.heap[gb430]? = some (.cells #[.int .u8 0, .int .u8 0, .int .u8 0, .int .i16 0, .int .i32 0] 24 (0, 0))) := ⟨h2_⟩
   have n3_ : Aside0 (w.heap.size ≤ gb430) := ⟨h3_⟩
   have n4_ : Aside0 (w.heap.size ≤ gb430) := ⟨h4_⟩
   have n5_ : Aside0 (gb417 ≠ gb430) := ⟨h5_⟩
   have n6_ : Aside0 (gb430 ≠ gb417) := ⟨h6_⟩
   have n7_ : Aside0 (gb418 ≠ gb430) := ⟨h7_⟩
   have n8_ : Aside0 (gb430 ≠ gb418) := ⟨h8_⟩
   have n9_ : Aside0 (Below w.heap.size w w15) := ⟨h9_⟩
   clear BK417
   clear BK418
   clear HB
   clear h0_ h1_ h2_ h3_ h4_ h5_ h6_ h7_ h8_ h9_
   have BK417 := n0_
   have BK418 := n1_
   have BK430 := n2_
   have GW430 := n3_
   have GE430 := n4_
   have NB417_430 := n5_
   have NB430_417 := n6_
   have NB418_430 := n7_
   have NB430_418 := n8_
   have HB := n9_
   clear n0_ n1_ n2_ n3_ n4_ n5_ n6_ n7_ n8_ n9_
   have hHeld : w15.cell? ⟨gb417, 0, none⟩ = some (.int .i64 a0_0) ∧ w15.cell? ⟨gb417, 1, none⟩ = some (.int .i64 a0_1) ∧ w15.cell? ⟨gb417, 2, none⟩ = some (.int .i64 a0_2) ∧ w15.cell? ⟨gb417, 3, none⟩ = some (.bool a0_3) ∧ w15.cell? ⟨gb417, 4, none⟩ = some (.bool a0_4) ∧ w15.cell? ⟨gb418, 0, none⟩ = some (.int .u8 a1_0) ∧ w15.cell? ⟨gb418, 1, none⟩ = some (.int .u8 a1_1) ∧ w15.cell? ⟨gb418, 2, none⟩ = some (.int .u8 a1_2) ∧ w15.cell? ⟨gb418, 3, none⟩ = some (.int .i16 a1_3) ∧ w15.cell? ⟨gb418, 4, none⟩ = some (.int .i32 a1_4) := hS_
   refine norm_ (a' := ?_) ?_ ?_
   rotate_left
   ·simp only [putAll, Act.put, List.setIfInBounds_toArray, List.set_cons_zero, List.set_cons_succ]
    rfl
   refine one_ (i := 8) (N := none) #[true, true, true, true, true, true, true, true, true, false] rfl rfl (one_of HT_.out (by kernel_rfl)) (by decide) (fun K hK => ?_)
   have hs16 : w15.cell? ⟨gb430, 0, none⟩ = some (.int .u8 0) := (blk_cell BK430.out 0).trans rfl
   have hfs16 := blk_frozen BK430.out 0
   have hns16_0 := NB417_430.out
   have hns16_1 := NB418_430.out
   have hms16_0 := NB430_417.out
   have hms16_1 := NB430_418.out
   have hs17 : w15.cell? ⟨gb430, 1, none⟩ = some (.int .u8 0) := (blk_cell BK430.out 1).trans rfl
   have hfs17 := blk_frozen BK430.out 1
   have hns17_0 := NB417_430.out
   have hns17_1 := NB418_430.out
   have hms17_0 := NB430_417.out
   have hms17_1 := NB430_418.out
   have hs18 : w15.cell? ⟨gb430, 2, none⟩ = some (.int .u8 0) := (blk_cell BK430.out 2).trans rfl
   have hfs18 := blk_frozen BK430.out 2
   have hns18_0 := NB417_430.out
   have hns18_1 := NB418_430.out
   have hms18_0 := NB430_417.out
   have hms18_1 := NB430_418.out
   have hs19 : w15.cell? ⟨gb430, 3, none⟩ = some (.int .i16 0) := (blk_cell BK430.out 3).trans rfl
   have hfs19 := blk_frozen BK430.out 3
   have hns19_0 := NB417_430.out
   have hns19_1 := NB418_430.out
   have hms19_0 := NB430_417.out
   have hms19_1 := NB430_418.out
   have hs20 : w15.cell? ⟨gb430, 4, none⟩ = some (.int .i32 0) := (blk_cell BK430.out 4).trans rfl
   have hfs20 := blk_frozen BK430.out 4
   have hns20_0 := NB417_430.out
   have hns20_1 := NB418_430.out
   have hms20_0 := NB430_417.out
   have hms20_1 := NB430_418.out
   refine skip_ (w1 := ?_) (by rfl) rfl ?_ ?_
   rotate_left
   ·go_simp
    rfl
   refine hK.out _ _ ⟨((cell_far (p := ⟨gb430, _, none⟩) NB417_430.out _).trans (((cell_far (p := ⟨gb430, _, none⟩) NB417_430.out _).trans (((cell_far (p := ⟨gb430, _, none⟩) NB417_430.out _).trans (((cell_far (p := ⟨gb430, _, none⟩) NB417_430.out _).trans (((cell_far (p := ⟨gb430, _, none⟩) NB417_430.out _).trans (hHeld.1)))))))))), ((cell_far (p := ⟨gb430, _, none⟩) NB417_430.out _).trans (((cell_far (p := ⟨gb430, _, none⟩) NB417_430.out _).trans (((cell_far (p := ⟨gb430, _, none⟩) NB417_430.out _).trans (((cell_far (p := ⟨gb430, _, none⟩) NB417_430.out _).trans (((cell_far (p := ⟨gb430, _, none⟩) NB417_430.out _).trans (hHeld.2.1)))))))))), ((cell_far (p := ⟨gb430, _, none⟩) NB417_430.out _).trans (((cell_far (p := ⟨gb430, _, none⟩) NB417_430.out _).trans (((cell_far (p := ⟨gb430, _, none⟩) NB417_430.out _).trans (((cell_far (p := ⟨gb430, _, none⟩) NB417_430.out _).trans (((cell_far (p := ⟨gb430, _, none⟩) NB417_430.out _).trans (hHeld.2.2.1)))))))))), ((cell_far (p := ⟨gb430, _, none⟩) NB417_430.out _).trans (((cell_far (p := ⟨gb430, _, none⟩) NB417_430.out _).trans (((cell_far (p := ⟨gb430, _, none⟩) NB417_430.out _).trans (((cell_far (p := ⟨gb430, _, none⟩) NB417_430.out _).trans (((cell_far (p := ⟨gb430, _, none⟩) NB417_430.out _).trans (hHeld.2.2.2.1)))))))))), ((cell_far (p := ⟨gb430, _, none⟩) NB417_430.out _).trans (((cell_far (p := ⟨gb430, _, none⟩) NB417_430.out _).trans (((cell_far (p := ⟨gb430, _, none⟩) NB417_430.out _).trans (((cell_far (p := ⟨gb430, _, none⟩) NB417_430.out _).trans (((cell_far (p := ⟨gb430, _, none⟩) NB417_430.out _).trans (hHeld.2.2.2.2.1)))))))))), ((cell_far (p := ⟨gb430, _, none⟩) NB418_430.out _).trans (((cell_far (p := ⟨gb430, _, none⟩) NB418_430.out _).trans (((cell_far (p := ⟨gb430, _, none⟩) NB418_430.out _).trans (((cell_far (p := ⟨gb430, _, none⟩) NB418_430.out _).trans (((cell_far (p := ⟨gb430, _, none⟩) NB418_430.out _).trans (hHeld.2.2.2.2.2.1)))))))))), ((cell_far (p := ⟨gb430, _, none⟩) NB418_430.out _).trans (((cell_far (p := ⟨gb430, _, none⟩) NB418_430.out _).trans (((cell_far (p := ⟨gb430, _, none⟩) NB418_430.out _).trans (((cell_far (p := ⟨gb430, _, none⟩) NB418_430.out _).trans (((cell_far (p := ⟨gb430, _, none⟩) NB418_430.out _).trans (hHeld.2.2.2.2.2.2.1)))))))))), ((cell_far (p := ⟨gb430, _, none⟩) NB418_430.out _).trans (((cell_far (p := ⟨gb430, _, none⟩) NB418_430.out _).trans (((cell_far (p := ⟨gb430, _, none⟩) NB418_430.out _).trans (((cell_far (p := ⟨gb430, _, none⟩) NB418_430.out _).trans (((cell_far (p := ⟨gb430, _, none⟩) NB418_430.out _).trans (hHeld.2.2.2.2.2.2.2.1)))))))))), ((cell_far (p := ⟨gb430, _, none⟩) NB418_430.out _).trans (((cell_far (p := ⟨gb430, _, none⟩) NB418_430.out _).trans (((cell_far (p := ⟨gb430, _, none⟩) NB418_430.out _).trans (((cell_far (p := ⟨gb430, _, none⟩) NB418_430.out _).trans (((cell_far (p := ⟨gb430, _, none⟩) NB418_430.out _).trans (hHeld.2.2.2.2.2.2.2.2.1)))))))))), ((cell_far (p := ⟨gb430, _, none⟩) NB418_430.out _).trans (((cell_far (p := ⟨gb430, _, none⟩) NB418_430.out _).trans (((cell_far (p := ⟨gb430, _, none⟩) NB418_430.out _).trans (((cell_far (p := ⟨gb430, _, none⟩) NB418_430.out _).trans (((cell_far (p := ⟨gb430, _, none⟩) NB418_430.out _).trans (hHeld.2.2.2.2.2.2.2.2.2))))))))))⟩ (fun hHeld => ?_)
   clear hK K
   refine pure_ (i := 9) (N := some 6) (v := ?_) (a' := ?_) #[true, true, true, true, true, true, true, true, true, true] rfl rfl (any_of HT_.out (by kernel_rfl)) (fun _ _ _ h => h) (Or.inl ⟨by rfl, ?_⟩) ?_ ?_
   rotate_left
   ·intro w'
    go_simp
    with_reducible rfl
   rotate_left
   ·simp only [Act.put, List.setIfInBounds_toArray, List.set_cons_zero, List.set_cons_succ, i64_w, i32_w]
    rfl
   refine done_ (done_of HT_.out (by kernel_rfl)) ?_
   have hnb21 := NB417_418.out
   have hnc21 := NB418_417.out
   have hnb22 := NB417_430.out
   have hnc22 := NB430_417.out
   have hcz23 := blk_all5 BK417.out
   have hnb24 := NB418_430.out
   have hnc24 := NB430_418.out
   have hcz25 := blk_all5 BK418.out
   try go_wp2_with (first | ((with_reducible refine gate_callee (f := 23) rfl ?_); refine sh_call (some 19) Tryd.func23 #[.agg #[.int .i64 a0_0, .int .i64 a0_1, .int .i64 a0_2, .bool a0_3, .bool a0_4], .agg #[.int .u8 a1_0, .int .u8 a1_1, .int .u8 a1_2, .int .i16 a1_3, .int .i32 a1_4]] ?_; (with_reducible refine (stockaderef02_Make.calls k a0_0 a0_1 a0_2 a0_3 a0_4 a1_0 a1_1 a1_2 a1_3 a1_4 t431 t432 t433 t434 t435 t436 _ A5.out).mono ?_); rintro e w26 ⟨rfl, hb⟩; refine ⟨_, rfl, ?_⟩; replace BK417 := sh_kp (g := gb417) (t := 30) #[.int .i64 a0_0, .int .i64 a0_1, .int .i64 a0_2, .bool a0_3, .bool a0_4] hb; replace BK418 := sh_kp (g := gb418) (t := 24) #[.int .u8 a1_0, .int .u8 a1_1, .int .u8 a1_2, .int .i16 a1_3, .int .i32 a1_4] hb; replace BK430 := sh_kp (g := gb430) (t := 24) #[.int .u8 t424, .int .u8 t425, .int .u8 t426, .int .i16 t427, .int .i32 t428] hb; replace HB := sh_b (w := w) hb; (try clear hb); (try clear hb2); (try clear hk); (try clear hi)) | ((with_reducible refine gate_dst (N := 7) rfl ?_); refine sh_box 7 #[.int .u8 0, .int .u8 0, .int .u8 0, .int .i16 0, .int .i32 0] 24 ?_; intro gb437 hg w27 hbox hb; have GE437 := sh_z (w := w) hg; have NB417_437 := sh_n BK417 hg; have NB418_437 := sh_n BK418 hg; have NB430_437 := sh_n BK430 hg; have NB437_417 := sh_s NB417_437; have NB437_418 := sh_s NB418_437; have NB437_430 := sh_s NB430_437; replace BK417 := sh_k BK417 hb; replace BK418 := sh_k BK418 hb; replace BK430 := sh_k BK430 hb; replace HB := sh_b (w := w) hb; have BK437 := Aside0.mk (hbox); clear hb hbox hg; have hnb28 := NB437_417.out; have hnc28 := NB417_437.out; have hnb29 := NB437_418.out; have hnc29 := NB418_437.out; have hnb30 := NB437_430.out; have hnc30 := NB430_437.out; have hcz31 := blk_all5 BK437.out; have hcz32 := blk_all5 BK430.out) | (go_at_call 15; (with_reducible refine (stockadelaw02_wakes.calls k  t438 _ ?side1 (by first | rfl | exact HRT.out) A8.out).mono ?_); (case side1 => exact Kd.C_below HRG0.out b_now); rintro e w33 ⟨rfl, hb⟩; replace BK417 := sh_kp (g := gb417) (t := 30) #[.int .i64 a0_0, .int .i64 a0_1, .int .i64 a0_2, .bool a0_3, .bool a0_4] hb; replace BK418 := sh_kp (g := gb418) (t := 24) #[.int .u8 a1_0, .int .u8 a1_1, .int .u8 a1_2, .int .i16 a1_3, .int .i32 a1_4] hb; replace BK430 := sh_kp (g := gb430) (t := 24) #[.int .u8 t424, .int .u8 t425, .int .u8 t426, .int .i16 t427, .int .i32 t428] hb; replace BK437 := sh_kp (g := gb437) (t := 24) #[.int .u8 t431, .int .u8 t432, .int .u8 t433, .int .i16 t434, .int .i32 t435] hb; replace HB := sh_b (w := w) hb; (try clear hb); (try clear hb2); (try clear hk); (try clear hi)))
   go_ret
   exact ⟨ret_now, b_now⟩
  ·rw [if_neg c7] at H
   have c7b0 : (t424 == t431 && (t425 == t432 && (t426 == t433 && (t427 == t434 && (t428 == t435))))) = false := by simpa using c7
   (try (have c7b1 : decide (t424 = t431 && (t425 == t432 && (t426 == t433 && (t427 == t434 && (t428 == t435))))) = false := by simpa using c7))
   (try (have c7b2 : (t424 == t431 && (t425 == t432 && (t426 == t433 && (t427 == t434 && (t428 == t435))))) = false := by simpa using c7))
   (try (have c7b3 : ¬ (t424 = t431 && (t425 == t432 && (t426 == t433 && (t427 == t434 && (t428 == t435))))) := by simpa using c7))
   clear c7
   obtain rfl := Option.some.inj H
   exact absurd HRT.out (by simp)
 ·rw [if_neg c6] at H
  have c6b0 : (t429 == t436) = false := beq_eq_false_iff_ne.mpr c6
  have c6b1 : (t429 != t436) = true := bne_iff_ne.mpr c6
  obtain rfl := Option.some.inj H
  exact absurd HRT.out (by simp)

end Go.Proofs.YtkojjjdeacdabaaDoor.P
