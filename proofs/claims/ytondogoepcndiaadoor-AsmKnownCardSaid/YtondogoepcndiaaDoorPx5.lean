/- Made by this session's driver over the kit's printer: for each Go function a Lean function with the same answers, and a proof that the Go call comes to these answers; no conditions but the ones each theorem names. -/
import Derived.Test.YtondogoepcndiaaDoorPx0
namespace Go.Proofs.YtondogoepcndiaaDoor.P
open Go.RowKit Go.Proofs.YtondogoepcndiaaDoorW.PrintWords Go.Proofs.YtondogoepcndiaaDoorW.PrintLast Go.Proofs.YtondogoepcndiaaDoorW.PrintMore
attribute [local go_sem] max2_int min2_int max_two min_two max_three min_three max_four min_four   -- for this text's walks alone
set_option linter.unusedVariables false
set_option linter.unusedSimpArgs false

/-! ### insn_fields: function 26 -/
def insn_fields.j0 : Nat → Int → Bool → Int → Int → Int → Bool → Bool → Option (Bool × Bool × Bool × Bool × Bool)
 | 0, _, _, _, _, _, _, _ => none
 | k + 1, x4, x18, x113000, x113001, x113002, x113003, x113004 => if x18 = true then (some (true, true, false, false, true)) else (if x4 = 3 then (some (true, true, true, true, false)) else (if x4 = 4 then (some (true, false, true, true, false)) else (if x4 = 5 then (some (true, false, false, true, true)) else (if x4 = 6 then (some (true, false, x113004, true, !x113004)) else (if x4 = 7 then (some (false, false, false, true, false)) else (if x4 = 8 then (some (false, false, false, false, true)) else (some (false, false, false, false, false))))))))
def insn_fields.f (k : Nat) (a0_0 : Int) (a0_1 : Int) (a0_2 : Int) (a0_3 : Bool) (a0_4 : Bool) : Option (Bool × Bool × Bool × Bool × Bool) := if a0_0 = 1 then (if a0_4 = true then (some (true, true, a0_4, false, false)) else (some (true, true, a0_4, false, (a0_1 != 8)))) else (if a0_0 = 2 then (insn_fields.j0 k a0_0 (a0_0 == 2) a0_0 a0_1 a0_2 a0_3 a0_4) else (if a0_0 = 10 then (insn_fields.j0 k a0_0 (a0_0 == 10) a0_0 a0_1 a0_2 a0_3 a0_4) else (insn_fields.j0 k a0_0 (a0_0 == 11) a0_0 a0_1 a0_2 a0_3 a0_4)))
theorem insn_fields.mono_l : ∀ k, (∀ y0 y1 y2 y3 y4 y5 y6, LeO (insn_fields.j0 k y0 y1 y2 y3 y4 y5 y6) (insn_fields.j0 (k + 1) y0 y1 y2 y3 y4 y5 y6))
 | 0 => fun _ _ _ _ _ _ _ r h => by simp [insn_fields.j0] at h
 | k + 1 => by
  have ih0 := insn_fields.mono_l k
  ·intro y0 y1 y2 y3 y4 y5 y6
   unfold insn_fields.j0
   repeat' first
   | (with_reducible exact ih0 _ _ _ _ _ _ _)
   | (with_reducible exact LeO.refl _)
   | (with_reducible exact LeO.none _)
   | (with_reducible refine LeO.ite ?_ ?_)
   | (with_reducible refine LeO.bind ?_ (fun _ => ?_))
   | refine LeO.ite ?_ ?_
   | refine LeO.bind ?_ (fun _ => ?_)
theorem insn_fields.mono : ∀ a0 a1 a2 a3 a4 k, LeO (insn_fields.f k a0 a1 a2 a3 a4) (insn_fields.f (k + 1) a0 a1 a2 a3 a4) := by
 intro a0 a1 a2 a3 a4 k
 have ih0 := insn_fields.mono_l k
 unfold insn_fields.f
 repeat' first
   | (with_reducible exact ih0 _ _ _ _ _ _ _)
   | (with_reducible exact LeO.refl _)
   | (with_reducible exact LeO.none _)
   | (with_reducible refine LeO.ite ?_ ?_)
   | (with_reducible refine LeO.bind ?_ (fun _ => ?_))
   | refine LeO.ite ?_ ?_
   | refine LeO.bind ?_ (fun _ => ?_)
set_option maxHeartbeats 8000000 in
set_option maxRecDepth 100000 in
theorem insn_fields.calls (k : Nat) (a0_0 : Int) (a0_1 : Int) (a0_2 : Int) (a0_3 : Bool) (a0_4 : Bool) (r1 : Bool) (r2 : Bool) (r3 : Bool) (r4 : Bool) (r5 : Bool) (w : World) (h : insn_fields.f k a0_0 a0_1 a0_2 a0_3 a0_4 = some (r1, r2, r3, r4, r5)) :
  Calls Tryd.prog 26 #[.agg #[.int .i64 a0_0, .int .i64 a0_1, .int .i64 a0_2, .bool a0_3, .bool a0_4]] w fun e w' => e = .returned (.agg #[.bool r1, .bool r2, .bool r3, .bool r4, .bool r5]) ∧ Below w.heap.size w w' := by
 have hu49 := Tryd.underlying49
 have hu71 := Tryd.underlying71
 have HB := Aside0.mk (Below.refl w.heap.size w)
 have H : (if a0_0 = 1 then (if a0_4 = true then (some (true, true, a0_4, false, false)) else (some (true, true, a0_4, false, (a0_1 != 8)))) else (if a0_0 = 2 then (insn_fields.j0 k a0_0 (a0_0 == 2) a0_0 a0_1 a0_2 a0_3 a0_4) else (if a0_0 = 10 then (insn_fields.j0 k a0_0 (a0_0 == 10) a0_0 a0_1 a0_2 a0_3 a0_4) else (insn_fields.j0 k a0_0 (a0_0 == 11) a0_0 a0_1 a0_2 a0_3 a0_4)))) = some (r1, r2, r3, r4, r5) := h
 clear h
 by_cases c2 : a0_0 = 1
 ·rw [if_pos c2] at H
  obtain ⟨c2b0, c2b1⟩ := eqT c2
  clear c2
  by_cases c3 : a0_4 = true
  ·subst c3
   replace H := sh_t H
   obtain ⟨rfl, rfl, rfl, rfl, rfl⟩ := pi5 H
   go_enter Tryd.func26, Tryd.ntmps26
   go_wp2_with (first | ((with_reducible refine gate_dst (N := 1) rfl ?_); refine sh_box 1 #[.int .i64 a0_0, .int .i64 a0_1, .int .i64 a0_2, .bool a0_3, .bool true] 49 ?_; intro gb112 hg w4 hbox hb; have GE112 := sh_z (w := w) hg; replace HB := sh_b (w := w) hb; have BK112 := Aside0.mk (hbox); clear hb hbox hg) | ((with_reducible refine gate_dst (N := 2) rfl ?_); refine sh_box 2 #[.bool false, .bool false, .bool false, .bool false, .bool false] 71 ?_; intro gb113 hg w5 hbox hb; have GE113 := sh_z (w := w) hg; have NB112_113 := sh_n BK112 hg; have NB113_112 := sh_s NB112_113; replace BK112 := sh_k BK112 hb; replace HB := sh_b (w := w) hb; have BK113 := Aside0.mk (hbox); clear hb hbox hg; obtain ⟨hnb6, hnc6⟩ := nb_ NB112_113; have hcz7 := blk_all5 BK112.out; have hcz8 := blk_all5 BK113.out))
   refine bodyPost_ret (results_cell_row rfl _ _ gb113 71 #[.bool true, .bool true, .bool true, .bool false, .bool false] (0, 0) _ rfl bk_now Tryd.underlying71 rfl (by kernel_rfl)) rfl ?_
   exact ⟨ret_now, b_now⟩
  ·replace c3 := Bool.eq_false_iff.mpr c3
   subst c3
   replace H := sh_f H
   obtain ⟨rfl, rfl, rfl, rfl, rfl⟩ := pi5 H
   go_enter Tryd.func26, Tryd.ntmps26
   go_wp2_with (first | ((with_reducible refine gate_dst (N := 1) rfl ?_); refine sh_box 1 #[.int .i64 a0_0, .int .i64 a0_1, .int .i64 a0_2, .bool a0_3, .bool false] 49 ?_; intro gb112 hg w9 hbox hb; have GE112 := sh_z (w := w) hg; replace HB := sh_b (w := w) hb; have BK112 := Aside0.mk (hbox); clear hb hbox hg) | ((with_reducible refine gate_dst (N := 2) rfl ?_); refine sh_box 2 #[.bool false, .bool false, .bool false, .bool false, .bool false] 71 ?_; intro gb113 hg w10 hbox hb; have GE113 := sh_z (w := w) hg; have NB112_113 := sh_n BK112 hg; have NB113_112 := sh_s NB112_113; replace BK112 := sh_k BK112 hb; replace HB := sh_b (w := w) hb; have BK113 := Aside0.mk (hbox); clear hb hbox hg; obtain ⟨hnb11, hnc11⟩ := nb_ NB112_113; have hcz12 := blk_all5 BK112.out; have hcz13 := blk_all5 BK113.out))
   refine bodyPost_ret (results_cell_row rfl _ _ gb113 71 #[.bool true, .bool true, .bool false, .bool false, .bool (a0_1 != 8)] (0, 0) _ rfl bk_now Tryd.underlying71 rfl (by kernel_rfl)) rfl ?_
   exact ⟨ret_now, b_now⟩
 ·rw [if_neg c2] at H
  obtain ⟨c2b0, c2b1⟩ := eqF c2
  have HC14 := Aside0.mk H
  clear H
  go_enter Tryd.func26, Tryd.ntmps26
  go_upto_if 18 with (first | ((with_reducible refine gate_dst (N := 1) rfl ?_); refine sh_box 1 #[.int .i64 a0_0, .int .i64 a0_1, .int .i64 a0_2, .bool a0_3, .bool a0_4] 49 ?_; intro gb112 hg w15 hbox hb; have GE112 := sh_z (w := w) hg; replace HB := sh_b (w := w) hb; have BK112 := Aside0.mk (hbox); clear hb hbox hg) | ((with_reducible refine gate_dst (N := 2) rfl ?_); refine sh_box 2 #[.bool false, .bool false, .bool false, .bool false, .bool false] 71 ?_; intro gb113 hg w16 hbox hb; have GE113 := sh_z (w := w) hg; have NB112_113 := sh_n BK112 hg; have NB113_112 := sh_s NB112_113; replace BK112 := sh_k BK112 hb; replace HB := sh_b (w := w) hb; have BK113 := Aside0.mk (hbox); clear hb hbox hg; obtain ⟨hnb17, hnc17⟩ := nb_ NB112_113; have hcz18 := blk_all5 BK112.out))
  (try simp only [Act.put, List.setIfInBounds_toArray, List.set_cons_zero, List.set_cons_succ])
  go_cut [18] (fun v18 wc => ∃ (kq : Nat) (x18_13 : Bool), v18 = .bool x18_13 ∧ Aside0 (insn_fields.j0 kq a0_0 x18_13 a0_0 a0_1 a0_2 a0_3 a0_4 = some (r1, r2, r3, r4, r5)) ∧ Aside0 (kq ≤ k) ∧ Aside0 (wc.heap[gb112]? = some (.cells #[.int .i64 a0_0, .int .i64 a0_1, .int .i64 a0_2, .bool a0_3, .bool a0_4] 49 (0, 0))) ∧ Aside0 (wc.heap[gb113]? = some (.cells #[.bool false, .bool false, .bool false, .bool false, .bool false] 71 (0, 0))) ∧ Aside0 (Below w.heap.size w wc))
  case first =>
   have H := HC14.out
   clear HC14
   by_cases c19 : a0_0 = 2
   ·rw [if_pos c19] at H
    obtain ⟨c19b0, c19b1⟩ := eqT c19
    clear c19
    (first | rw [c19b0] | (simp only [i64_w, i32_w]; rw [c19b0]) | skip)
    have H' := Aside0.mk H
    clear H
    go_wp2
    go_meet
    case rel => exact ⟨_, ((a0_0 == 2)), eq_now, H', ⟨by first | omega | exact Nat.le_refl _⟩, ⟨bk_now⟩, ⟨bk_now⟩, ⟨b_now⟩⟩
   ·rw [if_neg c19] at H
    obtain ⟨c19b0, c19b1⟩ := eqF c19
    (first | rw [c19b0] | (simp only [i64_w, i32_w]; rw [c19b0]) | skip)
    by_cases c20 : a0_0 = 10
    ·rw [if_pos c20] at H
     obtain ⟨c20b0, c20b1⟩ := eqT c20
     clear c20
     have H' := Aside0.mk H
     clear H
     go_wp2
     go_meet
     case rel => exact ⟨_, ((a0_0 == 10)), eq_now, H', ⟨by first | omega | exact Nat.le_refl _⟩, ⟨bk_now⟩, ⟨bk_now⟩, ⟨b_now⟩⟩
    ·rw [if_neg c20] at H
     obtain ⟨c20b0, c20b1⟩ := eqF c20
     have H' := Aside0.mk H
     clear H
     go_wp2
     go_meet
     case rel => exact ⟨_, ((a0_0 == 11)), eq_now, H', ⟨by first | omega | exact Nat.le_refl _⟩, ⟨bk_now⟩, ⟨bk_now⟩, ⟨b_now⟩⟩
  case rest =>
   clear HC14
   try clear c1
   try clear c2
   try clear c2b0
   try clear c2b1
   try clear p2
   try clear c3
   try clear c6
   try clear c11
   try clear c17
   try clear c19
   try clear c19b0
   try clear c19b1
   try clear c20
   try clear c20b0
   try clear c20b1
   try clear hcz12
   try clear hcz13
   try clear hcz18
   try clear hcz7
   try clear hcz8
   obtain ⟨kq, x18_13, rfl, HA, HJ13, BK112, BK113, HB⟩ := hcut
   cases kq with
   | zero => exact absurd HA.out (by simp [insn_fields.j0])
   | succ kj13 =>
    have H := HA.out
    clear HA
    simp only [insn_fields.j0] at H
    by_cases c21 : x18_13 = true
    ·subst c21
     replace H := sh_t H
     obtain ⟨rfl, rfl, rfl, rfl, rfl⟩ := pi5 H
     obtain ⟨hnb22, hnc22⟩ := nb_ NB113_112
     have hcz23 := blk_all5 BK113.out
     go_wp2
     refine bodyPost_ret (results_cell_row rfl _ _ gb113 71 #[.bool true, .bool true, .bool false, .bool false, .bool true] (0, 0) _ rfl bk_now Tryd.underlying71 rfl (by kernel_rfl)) rfl ?_
     exact ⟨ret_now, b_now⟩
    ·replace c21 := Bool.eq_false_iff.mpr c21
     subst c21
     replace H := sh_f H
     by_cases c24 : a0_0 = 3
     ·rw [if_pos c24] at H
      obtain ⟨c24b0, c24b1⟩ := eqT c24
      clear c24
      obtain ⟨rfl, rfl, rfl, rfl, rfl⟩ := pi5 H
      obtain ⟨hnb25, hnc25⟩ := nb_ NB113_112
      have hcz26 := blk_all5 BK113.out
      go_wp2
      refine bodyPost_ret (results_cell_row rfl _ _ gb113 71 #[.bool true, .bool true, .bool true, .bool true, .bool false] (0, 0) _ rfl bk_now Tryd.underlying71 rfl (by kernel_rfl)) rfl ?_
      exact ⟨ret_now, b_now⟩
     ·rw [if_neg c24] at H
      obtain ⟨c24b0, c24b1⟩ := eqF c24
      by_cases c27 : a0_0 = 4
      ·rw [if_pos c27] at H
       obtain ⟨c27b0, c27b1⟩ := eqT c27
       clear c27
       obtain ⟨rfl, rfl, rfl, rfl, rfl⟩ := pi5 H
       obtain ⟨hnb28, hnc28⟩ := nb_ NB113_112
       have hcz29 := blk_all5 BK113.out
       go_wp2
       refine bodyPost_ret (results_cell_row rfl _ _ gb113 71 #[.bool true, .bool false, .bool true, .bool true, .bool false] (0, 0) _ rfl bk_now Tryd.underlying71 rfl (by kernel_rfl)) rfl ?_
       exact ⟨ret_now, b_now⟩
      ·rw [if_neg c27] at H
       obtain ⟨c27b0, c27b1⟩ := eqF c27
       by_cases c30 : a0_0 = 5
       ·rw [if_pos c30] at H
        obtain ⟨c30b0, c30b1⟩ := eqT c30
        clear c30
        obtain ⟨rfl, rfl, rfl, rfl, rfl⟩ := pi5 H
        obtain ⟨hnb31, hnc31⟩ := nb_ NB113_112
        have hcz32 := blk_all5 BK113.out
        go_wp2
        refine bodyPost_ret (results_cell_row rfl _ _ gb113 71 #[.bool true, .bool false, .bool false, .bool true, .bool true] (0, 0) _ rfl bk_now Tryd.underlying71 rfl (by kernel_rfl)) rfl ?_
        exact ⟨ret_now, b_now⟩
       ·rw [if_neg c30] at H
        obtain ⟨c30b0, c30b1⟩ := eqF c30
        by_cases c33 : a0_0 = 6
        ·rw [if_pos c33] at H
         obtain ⟨c33b0, c33b1⟩ := eqT c33
         clear c33
         obtain ⟨rfl, rfl, rfl, rfl, rfl⟩ := pi5 H
         obtain ⟨hnb34, hnc34⟩ := nb_ NB112_113
         have hcz35 := blk_all5 BK112.out
         have hcz36 := blk_all5 BK113.out
         go_wp2
         refine bodyPost_ret (results_cell_row rfl _ _ gb113 71 #[.bool true, .bool false, .bool a0_4, .bool true, .bool (!a0_4)] (0, 0) _ rfl bk_now Tryd.underlying71 rfl (by kernel_rfl)) rfl ?_
         exact ⟨ret_now, b_now⟩
        ·rw [if_neg c33] at H
         obtain ⟨c33b0, c33b1⟩ := eqF c33
         by_cases c37 : a0_0 = 7
         ·rw [if_pos c37] at H
          obtain ⟨c37b0, c37b1⟩ := eqT c37
          clear c37
          obtain ⟨rfl, rfl, rfl, rfl, rfl⟩ := pi5 H
          obtain ⟨hnb38, hnc38⟩ := nb_ NB113_112
          have hcz39 := blk_all5 BK113.out
          go_wp2
          refine bodyPost_ret (results_cell_row rfl _ _ gb113 71 #[.bool false, .bool false, .bool false, .bool true, .bool false] (0, 0) _ rfl bk_now Tryd.underlying71 rfl (by kernel_rfl)) rfl ?_
          exact ⟨ret_now, b_now⟩
         ·rw [if_neg c37] at H
          obtain ⟨c37b0, c37b1⟩ := eqF c37
          by_cases c40 : a0_0 = 8
          ·rw [if_pos c40] at H
           obtain ⟨c40b0, c40b1⟩ := eqT c40
           clear c40
           obtain ⟨rfl, rfl, rfl, rfl, rfl⟩ := pi5 H
           obtain ⟨hnb41, hnc41⟩ := nb_ NB113_112
           have hcz42 := blk_all5 BK113.out
           go_wp2
           refine bodyPost_ret (results_cell_row rfl _ _ gb113 71 #[.bool false, .bool false, .bool false, .bool false, .bool true] (0, 0) _ rfl bk_now Tryd.underlying71 rfl (by kernel_rfl)) rfl ?_
           exact ⟨ret_now, b_now⟩
          ·rw [if_neg c40] at H
           obtain ⟨c40b0, c40b1⟩ := eqF c40
           obtain ⟨rfl, rfl, rfl, rfl, rfl⟩ := pi5 H
           obtain ⟨hnb43, hnc43⟩ := nb_ NB113_112
           have hcz44 := blk_all5 BK113.out
           go_wp2
           refine bodyPost_ret (results_cell_row rfl _ _ gb113 71 #[.bool false, .bool false, .bool false, .bool false, .bool false] (0, 0) _ rfl bk_now Tryd.underlying71 rfl (by kernel_rfl)) rfl ?_
           exact ⟨ret_now, b_now⟩

end Go.Proofs.YtondogoepcndiaaDoor.P
