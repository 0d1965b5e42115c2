/- Made by this session's driver over the kit's printer: for each Go function a Lean function with the same answers, and a proof that the Go call comes to these answers; no conditions but the ones each theorem names. -/
import Derived.Test.YtighficpbplkhaaDoorPx0
import Derived.Test.YtighficpbplkhaaDoorPx2
import Derived.Test.YtighficpbplkhaaDoorPx11
import Derived.Test.YtighficpbplkhaaDoorPx21
namespace Go.Proofs.YtighficpbplkhaaDoor.P
open Go.RowKit Go.Proofs.YtighficpbplkhaaDoorW.PrintWords Go.Proofs.YtighficpbplkhaaDoorW.PrintLast Go.Proofs.YtighficpbplkhaaDoorW.PrintMore
attribute [local go_sem] max2_int min2_int max_two min_two max_three min_three max_four min_four   -- for this text's walks alone
set_option linter.unusedVariables false
set_option linter.unusedSimpArgs false

/-! ### stockadelaw18_RuleFirst: function 6 -/
def stockadelaw18_RuleFirst.j0 : Nat → List (S46) → List (S46) → Bool → List Int → Int → Option (Bool)
 | 0, _, _, _, _, _ => none
 | k + 1, x0, x1, x19, x533000, x533001 => if x19 = true then ((stockadelaw18_wakes.f k).bind fun t535 => (some t535)) else ((stockadelaw18_Table.f k x0).bind fun t536 => ((rule_Judge.f k t536 x533000 x533001).bind fun bt539 => ((stockadelaw18_Table.f k x1).bind fun t541 => ((rule_Judge.f k t541 x533000 x533001).bind fun bt544 => ((stockadelaw18_Table.f k x0).bind fun t546 => ((stockadelaw18_Table.f k x1).bind fun t549 => (if t546.length + t549.length < 4398046511104 then ((rule_Judge.f k (t546 ++ t549) x533000 x533001).bind fun bt555 => (if bt539.2 ≥ 0 then (if bt555.1 = bt539.1 then (if bt555.2 = bt539.2 then (if bt539.2 < (x0.length : Int) then (if 0 ≤ bt539.2 then (if bt539.1 = ((rd_T46 x0 bt539.2).f1) then ((stockadelaw18_wakes.f k).bind fun t558 => (some t558)) else (some false)) else (none)) else (some false)) else (some false)) else (some false)) else (if bt544.2 ≥ 0 then (if bt539.1 = 0 then (if bt555.1 = bt544.1 then (if bt555.2 = (wrap64 ((x0.length : Int) + bt544.2)) then ((stockadelaw18_wakes.f k).bind fun t559 => (some t559)) else (some false)) else (some false)) else (some false)) else (if bt539.1 = 0 then (if bt544.1 = 0 then (if bt555.1 = 0 then (if bt555.2 = (-1) then (if bt539.2 = (-1) then (if bt544.2 = (-1) then ((stockadelaw18_wakes.f k).bind fun t560 => (some t560)) else (some false)) else (some false)) else (some false)) else (some false)) else (some false)) else (some false))))) else (none))))))))
def stockadelaw18_RuleFirst.f (k : Nat) (l0 : List (S46)) (l1 : List (S46)) (l2_0 : List Int) (a2_1 : Int) : Option (Bool) := (stockadelaw18_large.f k l0).bind fun t533 => (if t533 = true then (stockadelaw18_RuleFirst.j0 k l0 l1 true l2_0 a2_1) else ((stockadelaw18_large.f k l1).bind fun t534 => (stockadelaw18_RuleFirst.j0 k l0 l1 t534 l2_0 a2_1)))
theorem stockadelaw18_RuleFirst.mono_l : ∀ k, (∀ y0 y1 y2 y3 y4, LeO (stockadelaw18_RuleFirst.j0 k y0 y1 y2 y3 y4) (stockadelaw18_RuleFirst.j0 (k + 1) y0 y1 y2 y3 y4))
 | 0 => fun _ _ _ _ _ r h => by simp [stockadelaw18_RuleFirst.j0] at h
 | k + 1 => by
  have ih0 := stockadelaw18_RuleFirst.mono_l k
  ·intro y0 y1 y2 y3 y4
   unfold stockadelaw18_RuleFirst.j0
   repeat' first
   | (with_reducible exact ih0 _ _ _ _ _)
   | (with_reducible exact rule_Judge.mono _ _ _ _)
   | (with_reducible exact stockadelaw18_Table.mono _ _)
   | (with_reducible exact stockadelaw18_large.mono _ _)
   | (with_reducible exact stockadelaw18_wakes.mono _)
   | (with_reducible exact LeO.refl _)
   | (with_reducible exact LeO.none _)
   | (with_reducible refine LeO.ite ?_ ?_)
   | (with_reducible refine LeO.bind ?_ (fun _ => ?_))
   | exact ih0 _ _ _ _ _
   | exact rule_Judge.mono _ _ _ _
   | exact stockadelaw18_Table.mono _ _
   | exact stockadelaw18_large.mono _ _
   | exact stockadelaw18_wakes.mono _
   | exact LeO.none _
   | refine LeO.ite ?_ ?_
   | refine LeO.bind ?_ (fun _ => ?_)
theorem stockadelaw18_RuleFirst.mono : ∀ a0 a1 a2 a3 k, LeO (stockadelaw18_RuleFirst.f k a0 a1 a2 a3) (stockadelaw18_RuleFirst.f (k + 1) a0 a1 a2 a3) := by
 intro a0 a1 a2 a3 k
 have ih0 := stockadelaw18_RuleFirst.mono_l k
 unfold stockadelaw18_RuleFirst.f
 repeat' first
   | (with_reducible exact ih0 _ _ _ _ _)
   | (with_reducible exact rule_Judge.mono _ _ _ _)
   | (with_reducible exact stockadelaw18_Table.mono _ _)
   | (with_reducible exact stockadelaw18_large.mono _ _)
   | (with_reducible exact stockadelaw18_wakes.mono _)
   | (with_reducible exact LeO.refl _)
   | (with_reducible exact LeO.none _)
   | (with_reducible refine LeO.ite ?_ ?_)
   | (with_reducible refine LeO.bind ?_ (fun _ => ?_))
   | exact ih0 _ _ _ _ _
   | exact rule_Judge.mono _ _ _ _
   | exact stockadelaw18_Table.mono _ _
   | exact stockadelaw18_large.mono _ _
   | exact stockadelaw18_wakes.mono _
   | exact LeO.none _
   | refine LeO.ite ?_ ?_
   | refine LeO.bind ?_ (fun _ => ?_)
def stockadelaw18_RuleFirst.T3 : Bool × List (List Nat × List Nat) := (true, [([], []), ([0], [0]), ([], []), ([2], [2]), ([], []), ([4], [4]), ([1, 3, 5, 1], [1, 3, 5]), ([6], [6]), ([7], [7]), ([7], [7]), ([8, 6, 0, 1, 2, 3, 4, 5, 6, 7, 8], [8]), ([9, 10, 0, 1, 2, 3, 4, 5, 6, 7, 8, 9, 10], [9])])
def stockadelaw18_RuleFirst.B3 : List Nat := [0, 1, 0, 4, 0, 16, 63, 127, 255, 255, 511, 2047]
theorem stockadelaw18_RuleFirst.tab3 : rtab .any (opsOf Tryd.f6 3) = stockadelaw18_RuleFirst.T3 := by kernel_rfl
theorem stockadelaw18_RuleFirst.bits3 : waitsOk stockadelaw18_RuleFirst.T3.2 stockadelaw18_RuleFirst.B3 = true := by kernel_rfl
def stockadelaw18_RuleFirst.T4 : Bool × List (List Nat × List Nat) := (true, [([], []), ([0], [0]), ([], []), ([2], [2]), ([], []), ([4], [4]), ([1, 3, 5, 1], [1, 3, 5]), ([6], [6]), ([7], [7]), ([7], [7]), ([8, 6, 0, 1, 2, 3, 4, 5, 6, 7, 8], [8]), ([9, 10, 0, 1, 2, 3, 4, 5, 6, 7, 8, 9, 10], [9])])
def stockadelaw18_RuleFirst.B4 : List Nat := [0, 1, 0, 4, 0, 16, 63, 127, 255, 255, 511, 2047]
theorem stockadelaw18_RuleFirst.tab4 : rtab .any (opsOf Tryd.f6 4) = stockadelaw18_RuleFirst.T4 := by kernel_rfl
theorem stockadelaw18_RuleFirst.bits4 : waitsOk stockadelaw18_RuleFirst.T4.2 stockadelaw18_RuleFirst.B4 = true := by kernel_rfl
set_option maxHeartbeats 8000000 in
set_option maxRecDepth 100000 in
theorem stockadelaw18_RuleFirst.calls (k : Nat) (A0 : Option Addr) (c0 : Nat) (l0 : List (S46)) (A1 : Option Addr) (c1 : Nat) (l1 : List (S46)) (A2_0 : Option Addr) (c2_0 : Nat) (l2_0 : List Int) (a2_1 : Int) (r : Bool) (w : World) (hr0 : Kd.C k46 w A0 l0.length l0) (hc0 : l0.length ≤ c0) (hr1 : Kd.C k46 w A1 l1.length l1) (hc1 : l1.length ≤ c1) (hr2_0 : Kd.C (Kd.int .u8) w A2_0 l2_0.length l2_0) (hc2_0 : l2_0.length ≤ c2_0) (hrG0 : Kd.C kGF w (some ⟨0, 0, none⟩) gl0.length gl0) (hr_ : r = true) (h : stockadelaw18_RuleFirst.f k l0 l1 l2_0 a2_1 = some r) :
  Calls Tryd.prog 6 #[.slice A0 l0.length c0, .slice A1 l1.length c1, .agg #[.slice A2_0 l2_0.length c2_0, .int .u32 a2_1]] w fun e w' => e = .returned (.bool r) ∧ Below w.heap.size w w' := by
 have hu40 := Tryd.underlying40
 have HR0 := Aside0.mk hr0
 have HC0 := Aside0.mk hc0
 clear hr0 hc0
 have HR1 := Aside0.mk hr1
 have HC1 := Aside0.mk hc1
 clear hr1 hc1
 have HR2_0 := Aside0.mk hr2_0
 have HC2_0 := Aside0.mk hc2_0
 clear hr2_0 hc2_0
 have HRG0 := Aside0.mk hrG0
 clear hrG0
 have HRT := Aside0.mk hr_
 clear hr_
 have HB := Aside0.mk (Below.refl w.heap.size w)
 have H : ((stockadelaw18_large.f k l0).bind fun t533 => (if t533 = true then (stockadelaw18_RuleFirst.j0 k l0 l1 true l2_0 a2_1) else ((stockadelaw18_large.f k l1).bind fun t534 => (stockadelaw18_RuleFirst.j0 k l0 l1 t534 l2_0 a2_1)))) = some r := h
 clear h
 have HC4 := Aside0.mk H
 clear H
 go_enter Tryd.func6, Tryd.ntmps6
 go_upto_region 1 with (first | ((with_reducible refine gate_dst (N := 5) rfl ?_); (try (refine gate_guard (by rfl) ?_; dsimp only)); refine sh_box 5 #[.slice A2_0 l2_0.length c2_0, .int .u32 a2_1] 40 ?_; intro gb532 hg w5 hbox hb; have GE532 := sh_z (w := w) hg; replace HB := sh_b (w := w) hb; have BK532 := Aside0.mk (hbox); clear hb hbox hg))
 (try simp only [Act.put, List.setIfInBounds_toArray, List.set_cons_zero, List.set_cons_succ])
 go_cut [19] (fun v19 wc => ∃ (kq : Nat) (x19_3 : Bool), v19 = .bool x19_3 ∧ Aside0 (stockadelaw18_RuleFirst.j0 kq l0 l1 x19_3 l2_0 a2_1 = some r) ∧ Aside0 (kq ≤ k) ∧ Aside0 (wc.heap[gb532]? = some (.cells #[(.slice A2_0 l2_0.length c2_0), .int .u32 a2_1] 40 (0, 0))) ∧ Aside0 (Below w.heap.size w wc))
 case first =>
  have H := HC4.out
  clear HC4
  replace H := Option.bind_eq_some_iff.mp H; obtain ⟨t533, A60, H⟩ := H; try dsimp only at H
  have A6 := Aside0.mk A60
  clear A60
  by_cases c7 : t533 = true
  ·subst c7
   replace H := sh_t H
   have H' := Aside0.mk H
   clear H
   go_wp2_with (first | ((with_reducible refine gate_callee (f := 10) rfl ?_); refine sh_call (some 15) Tryd.func10 #[.slice A0 l0.length c0] ?_; (with_reducible refine (stockadelaw18_large.calls k _ _ l0 true _ ?side1 ?side2 A6.out).mono ?_); (case side1 => repeat (first | exact (Kd.C_below HR0.out HB.out) | (with_reducible refine Kd.C_alloc ?_ _) | (with_reducible refine Kd.C_drewN ?_ _) | (with_reducible refine Kd.C_drew ?_))); (case side2 => exact HC0.out); rintro e w' ⟨rfl, ⟨nd, rfl⟩⟩; refine ⟨_, rfl, ?_⟩))
   go_meet
   case rel => exact ⟨_, (true), eq_now, H', ⟨by first | omega | exact Nat.le_refl _⟩, ⟨bk_now⟩, ⟨b_now⟩⟩
  ·replace c7 := Bool.eq_false_iff.mpr c7
   subst c7
   replace H := sh_f H
   replace H := Option.bind_eq_some_iff.mp H; obtain ⟨t534, A80, H⟩ := H; try dsimp only at H
   have A8 := Aside0.mk A80
   clear A80
   have H' := Aside0.mk H
   clear H
   go_wp2_with (first | ((with_reducible refine gate_callee (f := 10) rfl ?_); refine sh_call (some 15) Tryd.func10 #[.slice A0 l0.length c0] ?_; (with_reducible refine (stockadelaw18_large.calls k _ _ l0 false _ ?side1 ?side2 A6.out).mono ?_); (case side1 => repeat (first | exact (Kd.C_below HR0.out HB.out) | (with_reducible refine Kd.C_alloc ?_ _) | (with_reducible refine Kd.C_drewN ?_ _) | (with_reducible refine Kd.C_drew ?_))); (case side2 => exact HC0.out); rintro e w' ⟨rfl, ⟨nd, rfl⟩⟩; refine ⟨_, rfl, ?_⟩) | (go_at_call 10; (with_reducible refine (stockadelaw18_large.calls k _ _ l1 t534 _ ?side1 ?side2 A8.out).mono ?_); (case side1 => repeat (first | exact (Kd.C_below HR1.out b_now) | (with_reducible refine Kd.C_alloc ?_ _) | (with_reducible refine Kd.C_drewN ?_ _) | (with_reducible refine Kd.C_drew ?_))); (case side2 => exact HC1.out); rintro e w' ⟨rfl, ⟨nd, rfl⟩⟩))
   go_meet
   case rel => exact ⟨_, (t534), eq_now, H', ⟨by first | omega | exact Nat.le_refl _⟩, ⟨bk_now⟩, ⟨b_now⟩⟩
 case rest =>
  clear HC4
  try clear c1
  try clear c2
  try clear p2
  try clear c6
  try clear c7
  obtain ⟨kq, x19_3, rfl, HA, HJ3, BK532, HB⟩ := hcut
  cases kq with
  | zero => exact absurd HA.out (by simp [stockadelaw18_RuleFirst.j0])
  | succ kj3 =>
   have H := HA.out
   clear HA
   simp only [stockadelaw18_RuleFirst.j0] at H
   by_cases c9 : x19_3 = true
   ·subst c9
    replace H := sh_t H
    replace H := Option.bind_eq_some_iff.mp H; obtain ⟨t535, A100, H⟩ := H; try dsimp only at H
    have A10 := Aside0.mk A100
    clear A100
    obtain rfl := Option.some.inj H
    go_wp2_with (first | ((with_reducible refine gate_callee (f := 11) rfl ?_); refine sh_call (some 20) Tryd.func11 #[] ?_; (with_reducible refine (stockadelaw18_wakes.calls kj3  t535 _ ?side1 (by first | rfl | exact HRT.out) A10.out).mono ?_); (case side1 => repeat (first | exact (Kd.C_below HRG0.out HB.out) | (with_reducible refine Kd.C_alloc ?_ _) | (with_reducible refine Kd.C_drewN ?_ _) | (with_reducible refine Kd.C_drew ?_))); rintro e w11 ⟨rfl, hb⟩; refine ⟨_, rfl, ?_⟩; replace BK532 := sh_k BK532 hb; replace HB := sh_b (w := w) hb; (try clear hb); (try clear hb2); (try clear hk); (try clear hi)))
    go_ret
    exact ⟨ret_now, b_now⟩
   ·replace c9 := Bool.eq_false_iff.mpr c9
    subst c9
    replace H := sh_f H
    replace H := Option.bind_eq_some_iff.mp H; obtain ⟨t536, A120, H⟩ := H; try dsimp only at H
    have A12 := Aside0.mk A120
    clear A120
    replace H := Option.bind_eq_some_iff.mp H; obtain ⟨⟨t539, t540⟩, A130, H⟩ := H; try dsimp only at H
    have A13 := Aside0.mk A130
    clear A130
    replace H := Option.bind_eq_some_iff.mp H; obtain ⟨t541, A140, H⟩ := H; try dsimp only at H
    have A14 := Aside0.mk A140
    clear A140
    replace H := Option.bind_eq_some_iff.mp H; obtain ⟨⟨t544, t545⟩, A150, H⟩ := H; try dsimp only at H
    have A15 := Aside0.mk A150
    clear A150
    replace H := Option.bind_eq_some_iff.mp H; obtain ⟨t546, A160, H⟩ := H; try dsimp only at H
    have A16 := Aside0.mk A160
    clear A160
    replace H := Option.bind_eq_some_iff.mp H; obtain ⟨t549, A170, H⟩ := H; try dsimp only at H
    have A17 := Aside0.mk A170
    clear A170
    by_cases c18 : t546.length + t549.length < 4398046511104
    ·rw [if_pos c18] at H
     have LMc18 := Aside0.mk c18
     clear c18
     obtain ⟨y552, hy552⟩ : ∃ y_ : List (S53), y_ = (t546 ++ t549) := ⟨_, rfl⟩
     replace H : ((rule_Judge.f kj3 y552 l2_0 a2_1).bind fun bt555 => (if t540 ≥ 0 then (if bt555.1 = t539 then (if bt555.2 = t540 then (if t540 < (l0.length : Int) then (if 0 ≤ t540 then (if t539 = ((rd_T46 l0 t540).f1) then ((stockadelaw18_wakes.f kj3).bind fun t558 => (some t558)) else (some false)) else (none)) else (some false)) else (some false)) else (some false)) else (if t545 ≥ 0 then (if t539 = 0 then (if bt555.1 = t544 then (if bt555.2 = (wrap64 ((l0.length : Int) + t545)) then ((stockadelaw18_wakes.f kj3).bind fun t559 => (some t559)) else (some false)) else (some false)) else (some false)) else (if t539 = 0 then (if t544 = 0 then (if bt555.1 = 0 then (if bt555.2 = (-1) then (if t540 = (-1) then (if t545 = (-1) then ((stockadelaw18_wakes.f kj3).bind fun t560 => (some t560)) else (some false)) else (some false)) else (some false)) else (some false)) else (some false)) else (some false))))) = some r := by first | (rw [hy552]; with_reducible exact H) | (have H2_ := (Option.bind_some _ _).symm.trans H; rw [hy552]; with_reducible exact H2_) | (have H2_ := (Option.bind_some _ _).symm.trans H; with_reducible exact H2_) | with_reducible exact H | (rw [hy552]; exact H) | exact H
     have Ny552 := Aside0.mk hy552
     clear hy552
     replace H := Option.bind_eq_some_iff.mp H; obtain ⟨⟨t555, t556⟩, A190, H⟩ := H; try dsimp only at H
     have A19 := Aside0.mk A190
     clear A190
     by_cases c20 : t540 ≥ 0
     ·rw [if_pos c20] at H
      have c20b0 : decide (0 ≤ t540) = true := decide_eq_true c20
      clear c20
      by_cases c21 : t555 = t539
      ·rw [if_pos c21] at H
       have c21b0 : (t555 == t539) = true := beq_iff_eq.mpr c21
       have c21b1 : (t555 != t539) = false := bne_eq_false_iff_eq.mpr c21
       clear c21
       by_cases c22 : t556 = t540
       ·rw [if_pos c22] at H
        have c22b0 : (t556 == t540) = true := beq_iff_eq.mpr c22
        have c22b1 : (t556 != t540) = false := bne_eq_false_iff_eq.mpr c22
        clear c22
        by_cases c23 : t540 < (l0.length : Int)
        ·rw [if_pos c23] at H
         have c23b0 : decide (t540 < (l0.length : Int)) = true := decide_eq_true c23
         clear c23
         by_cases c24 : 0 ≤ t540
         ·rw [if_pos c24] at H
          have c24b0 : decide (0 ≤ t540) = true := decide_eq_true c24
          clear c24
          by_cases c25 : t539 = ((rd_T46 l0 t540).f1)
          ·rw [if_pos c25] at H
           have c25b0 : (t539 == ((rd_T46 l0 t540).f1)) = true := beq_iff_eq.mpr c25
           have c25b1 : (t539 != ((rd_T46 l0 t540).f1)) = false := bne_eq_false_iff_eq.mpr c25
           clear c25
           replace H := Option.bind_eq_some_iff.mp H; obtain ⟨t558, A260, H⟩ := H; try dsimp only at H
           have A26 := Aside0.mk A260
           clear A260
           obtain rfl := Option.some.inj H
           try go_wp2
           have n0_ := Aside0.mk (blk_drew BK532.out)
           have n1_ := Aside0.mk (below_drew1 HB.out)
           clear BK532
           clear HB
           have BK532 := n0_
           have HB := n1_
           clear n0_ n1_
           refine start_ (n := 12) (S := fun w' => w'.cell? ⟨gb532, 0, none⟩ = some (.slice A2_0 l2_0.length c2_0) ∧ w'.cell? ⟨gb532, 1, none⟩ = some (.int .u32 a2_1)) (ds := []) #[false, false, false, false, false, false, false, false, false, false, false, false] (by kernel_rfl) rfl rfl ⟨(blk_cell BK532.out 0).trans rfl, (blk_cell BK532.out 1).trans rfl⟩ (fun hHeld => ?_); refine with_tabW stockadelaw18_RuleFirst.tab3 stockadelaw18_RuleFirst.bits3 (fun HT_ HW_ => ?_)
           generalize wc.drew = w27 at BK532 HB hHeld ⊢
           refine pure_ (i := 0) (N := some 22) (v := ?_) (a' := ?_) #[true, false, false, false, false, false, false, false, false, false, false, false] rfl rfl (any_of HT_.out (by kernel_rfl)) (fun _ _ _ h => h) (Or.inl ⟨by rfl, ?_⟩) ?_ ?_
           rotate_left
           ·intro w'
            go_simp
            with_reducible rfl
           rotate_left
           ·simp only [Act.put, List.setIfInBounds_toArray, List.set_cons_zero, List.set_cons_succ, i64_w, i32_w]
            rfl
           refine pure_ (i := 2) (N := some 24) (v := ?_) (a' := ?_) #[true, false, true, false, false, false, false, false, false, false, false, false] rfl rfl (any_of HT_.out (by kernel_rfl)) (fun _ _ _ h => h) (Or.inl ⟨by rfl, ?_⟩) ?_ ?_
           rotate_left
           ·intro w'
            go_simp
            with_reducible rfl
           rotate_left
           ·simp only [Act.put, List.setIfInBounds_toArray, List.set_cons_zero, List.set_cons_succ, i64_w, i32_w]
            rfl
           refine pure_ (i := 4) (N := some 26) (v := ?_) (a' := ?_) #[true, false, true, false, true, false, false, false, false, false, false, false] rfl rfl (any_of HT_.out (by kernel_rfl)) (fun _ _ _ h => h) (Or.inl ⟨by rfl, ?_⟩) ?_ ?_
           rotate_left
           ·intro w'
            go_simp
            with_reducible rfl
           rotate_left
           ·simp only [Act.put, List.setIfInBounds_toArray, List.set_cons_zero, List.set_cons_succ, i64_w, i32_w]
            rfl
           refine take_ (i := 3) (N := some 25) (v := ?_) (a' := ?_) #[true, false, true, true, true, false, false, false, false, false, false, false] rfl rfl (take_ofW HT_.out HW_.out (by kernel_rfl)) (fun _ _ _ h => h) (Or.inl ⟨by rfl, ?_⟩) hHeld ?_ ?_
           rotate_left
           ·rintro w' ⟨s0, s1⟩
            go_simp
            with_reducible rfl
           rotate_left
           ·simp only [Act.put, List.setIfInBounds_toArray, List.set_cons_zero, List.set_cons_succ, i64_w, i32_w]
            rfl
           refine take_ (i := 5) (N := some 27) (v := ?_) (a' := ?_) #[true, false, true, true, true, true, false, false, false, false, false, false] rfl rfl (take_ofW HT_.out HW_.out (by kernel_rfl)) (fun _ _ _ h => h) (Or.inl ⟨by rfl, ?_⟩) hHeld ?_ ?_
           rotate_left
           ·rintro w' ⟨s0, s1⟩
            go_simp
            with_reducible rfl
           rotate_left
           ·simp only [Act.put, List.setIfInBounds_toArray, List.set_cons_zero, List.set_cons_succ, i64_w, i32_w]
            rfl
           refine one_ (i := 1) (N := some 23) #[true, true, true, true, true, true, false, false, false, false, false, false] rfl rfl (one_of HT_.out (by kernel_rfl)) (by decide) (fun K hK => ?_)
           refine goes_ Tryd.func12 (by kernel_rfl) rfl #[.slice A0 l0.length c0] (by rfl) rfl rfl (by (try simp only [List.map_toArray, List.map_cons, List.map_nil]); first | done | rfl | (simp only [List.length_drop, List.length_take]; rfl)) ?_
           with_reducible refine (stockadelaw18_Table.calls kj3 _ _ l0 t536 _ ?side1 ?side2 A12.out).mono ?_
           (case side1 => repeat (first | exact (Kd.C_below HR0.out HB.out) | (with_reducible refine Kd.C_alloc ?_ _) | (with_reducible refine Kd.C_drewN ?_ _) | (with_reducible refine Kd.C_drew ?_)))
           (case side2 => exact HC0.out)
           rintro e w28 ⟨v537, rfl, ho0, hb⟩
           refine ⟨_, rfl, ?_⟩
           have n0_ := Aside0.mk (Kd.N_lower (Kd.N_mono (ok' := fun k_ => k_ ≠ gb532) (Kd.S_N (Kd.S_bound ho0)) (fun k_ hk_ => (Kd.freshB (g := gb532) (o := .cells #[.slice A2_0 l2_0.length c2_0, .int .u32 a2_1] 40 (0, 0)) bk_now k_ hk_.2.1))) (below_size b_now))
           have n1_ := Aside0.mk (blk_below (g := gb532) (o := .cells #[.slice A2_0 l2_0.length c2_0, .int .u32 a2_1] 40 (0, 0)) bk_now hb)
           have n2_ := Aside0.mk (below_step b_now hb)
           clear BK532
           clear HB
           have HO538 := n0_
           have BK532 := n1_
           have HB := n2_
           clear n0_ n1_ n2_
           (try clear hb)
           (try clear hb2)
           (try clear hk)
           (try clear hi)
           (try clear ho0)
           obtain ⟨Ao29, co29, eo29⟩ := Kd.N_slice HO538.out
           (first | subst eo29 | (injection eo29 with f1_ f2_ f3_; have f4_ := f1_.symm; have f5_ := f3_.symm; clear f1_ f2_ f3_; subst f4_; subst f5_))
           refine hK.out _ _ ⟨(blk_cell BK532.out 0).trans rfl, (blk_cell BK532.out 1).trans rfl⟩ (fun hHeld => ?_)
           clear hK K
           refine norm_ (a' := ?_) ?_ ?_
           rotate_left
           ·show Act.put _ (some 23) _ = _
            simp only [Act.put, List.setIfInBounds_toArray, List.set_cons_zero, List.set_cons_succ, i64_w, i32_w]
            rfl
           refine one_ (i := 6) (N := some 28) #[true, true, true, true, true, true, true, false, false, false, false, false] rfl rfl (one_of HT_.out (by kernel_rfl)) (by decide) (fun K hK => ?_)
           refine goes_ Tryd.func18 (by kernel_rfl) rfl #[.slice Ao29 t536.length co29, .slice A2_0 l2_0.length c2_0, .int .u32 a2_1] (by rfl) rfl rfl (by (try simp only [List.map_toArray, List.map_cons, List.map_nil]); first | done | rfl | (simp only [List.length_drop, List.length_take]; rfl)) ?_
           with_reducible refine (rule_Judge.calls kj3 _ _ t536 _ _ l2_0 a2_1 t539 t540 _ ?side1 ?side2 ?side3 ?side4 A13.out).mono ?_
           (case side1 => repeat (first | exact (Kd.N_reads' HO538.out).2.2 | (with_reducible refine Kd.C_alloc ?_ _) | (with_reducible refine Kd.C_drewN ?_ _) | (with_reducible refine Kd.C_drew ?_)))
           (case side2 => exact (Kd.N_reads' HO538.out).2.1)
           (case side3 => repeat (first | exact (Kd.C_below HR2_0.out HB.out) | (with_reducible refine Kd.C_alloc ?_ _) | (with_reducible refine Kd.C_drewN ?_ _) | (with_reducible refine Kd.C_drew ?_)))
           (case side4 => exact HC2_0.out)
           rintro e w30 ⟨rfl, hb⟩
           refine ⟨_, rfl, ?_⟩
           have n0_ := Aside0.mk (Kd.N_below (by (with_reducible repeat (first | apply Kd.N_alloc | apply Kd.N_drewN | apply Kd.N_drew)); exact HO538.out) hb)
           have n1_ := Aside0.mk (blk_below (g := gb532) (o := .cells #[.slice A2_0 l2_0.length c2_0, .int .u32 a2_1] 40 (0, 0)) bk_now hb)
           have n2_ := Aside0.mk (below_step b_now hb)
           clear HO538
           clear BK532
           clear HB
           have HO538 := n0_
           have BK532 := n1_
           have HB := n2_
           clear n0_ n1_ n2_
           (try clear hb)
           (try clear hb2)
           (try clear hk)
           (try clear hi)
           refine hK.out _ _ ⟨(blk_cell BK532.out 0).trans rfl, (blk_cell BK532.out 1).trans rfl⟩ (fun hHeld => ?_)
           clear hK K
           refine norm_ (a' := ?_) ?_ ?_
           rotate_left
           ·show Act.put _ (some 28) _ = _
            simp only [Act.put, List.setIfInBounds_toArray, List.set_cons_zero, List.set_cons_succ, i64_w, i32_w]
            rfl
           refine pure_ (i := 7) (N := some 21) (v := ?_) (a' := ?_) #[true, true, true, true, true, true, true, true, false, false, false, false] rfl rfl (any_of HT_.out (by kernel_rfl)) (fun _ _ _ h => h) (Or.inl ⟨by rfl, ?_⟩) ?_ ?_
           rotate_left
           ·intro w'
            go_simp
            with_reducible rfl
           rotate_left
           ·simp only [Act.put, List.setIfInBounds_toArray, List.set_cons_zero, List.set_cons_succ, i64_w, i32_w]
            rfl
           refine pure_ (i := 8) (N := some 29) (v := ?_) (a' := ?_) #[true, true, true, true, true, true, true, true, true, false, false, false] rfl rfl (any_of HT_.out (by kernel_rfl)) (fun _ _ _ h => h) (Or.inl ⟨by rfl, ?_⟩) ?_ ?_
           rotate_left
           ·intro w'
            go_simp
            with_reducible rfl
           rotate_left
           ·simp only [Act.put, List.setIfInBounds_toArray, List.set_cons_zero, List.set_cons_succ, i64_w, i32_w]
            rfl
           refine pure_ (i := 9) (N := some 30) (v := ?_) (a' := ?_) #[true, true, true, true, true, true, true, true, true, true, false, false] rfl rfl (any_of HT_.out (by kernel_rfl)) (fun _ _ _ h => h) (Or.inl ⟨by rfl, ?_⟩) ?_ ?_
           rotate_left
           ·intro w'
            go_simp
            with_reducible rfl
           rotate_left
           ·simp only [Act.put, List.setIfInBounds_toArray, List.set_cons_zero, List.set_cons_succ, i64_w, i32_w]
            rfl
           refine pure_ (i := 10) (N := some 7) (v := ?_) (a' := ?_) #[true, true, true, true, true, true, true, true, true, true, true, false] rfl rfl (any_of HT_.out (by kernel_rfl)) (fun _ _ _ h => h) (Or.inl ⟨by rfl, ?_⟩) ?_ ?_
           rotate_left
           ·intro w'
            go_simp
            with_reducible rfl
           rotate_left
           ·simp only [Act.put, List.setIfInBounds_toArray, List.set_cons_zero, List.set_cons_succ, i64_w, i32_w]
            rfl
           refine pure_ (i := 11) (N := some 8) (v := ?_) (a' := ?_) #[true, true, true, true, true, true, true, true, true, true, true, true] rfl rfl (any_of HT_.out (by kernel_rfl)) (fun _ _ _ h => h) (Or.inl ⟨by rfl, ?_⟩) ?_ ?_
           rotate_left
           ·intro w'
            go_simp
            with_reducible rfl
           rotate_left
           ·simp only [Act.put, List.setIfInBounds_toArray, List.set_cons_zero, List.set_cons_succ, i64_w, i32_w]
            rfl
           refine done_ (done_of HT_.out (by kernel_rfl)) ?_
           try go_wp2
           have n0_ := Aside0.mk (Kd.N_drew HO538.out)
           have n1_ := Aside0.mk (blk_drew BK532.out)
           have n2_ := Aside0.mk (below_drew1 HB.out)
           clear HO538
           clear BK532
           clear HB
           have HO538 := n0_
           have BK532 := n1_
           have HB := n2_
           clear n0_ n1_ n2_
           refine start_ (n := 12) (S := fun w' => w'.cell? ⟨gb532, 0, none⟩ = some (.slice A2_0 l2_0.length c2_0) ∧ w'.cell? ⟨gb532, 1, none⟩ = some (.int .u32 a2_1)) (ds := []) #[false, false, false, false, false, false, false, false, false, false, false, false] (by kernel_rfl) rfl rfl ⟨(blk_cell BK532.out 0).trans rfl, (blk_cell BK532.out 1).trans rfl⟩ (fun hHeld => ?_); refine with_tabW stockadelaw18_RuleFirst.tab4 stockadelaw18_RuleFirst.bits4 (fun HT_ HW_ => ?_)
           generalize w30.drew = w31 at HO538 BK532 HB hHeld ⊢
           refine pure_ (i := 0) (N := some 32) (v := ?_) (a' := ?_) #[true, false, false, false, false, false, false, false, false, false, false, false] rfl rfl (any_of HT_.out (by kernel_rfl)) (fun _ _ _ h => h) (Or.inl ⟨by rfl, ?_⟩) ?_ ?_
           rotate_left
           ·intro w'
            go_simp
            with_reducible rfl
           rotate_left
           ·simp only [Act.put, List.setIfInBounds_toArray, List.set_cons_zero, List.set_cons_succ, i64_w, i32_w]
            rfl
           refine pure_ (i := 2) (N := some 34) (v := ?_) (a' := ?_) #[true, false, true, false, false, false, false, false, false, false, false, false] rfl rfl (any_of HT_.out (by kernel_rfl)) (fun _ _ _ h => h) (Or.inl ⟨by rfl, ?_⟩) ?_ ?_
           rotate_left
           ·intro w'
            go_simp
            with_reducible rfl
           rotate_left
           ·simp only [Act.put, List.setIfInBounds_toArray, List.set_cons_zero, List.set_cons_succ, i64_w, i32_w]
            rfl
           refine pure_ (i := 4) (N := some 36) (v := ?_) (a' := ?_) #[true, false, true, false, true, false, false, false, false, false, false, false] rfl rfl (any_of HT_.out (by kernel_rfl)) (fun _ _ _ h => h) (Or.inl ⟨by rfl, ?_⟩) ?_ ?_
           rotate_left
           ·intro w'
            go_simp
            with_reducible rfl
           rotate_left
           ·simp only [Act.put, List.setIfInBounds_toArray, List.set_cons_zero, List.set_cons_succ, i64_w, i32_w]
            rfl
           refine take_ (i := 3) (N := some 35) (v := ?_) (a' := ?_) #[true, false, true, true, true, false, false, false, false, false, false, false] rfl rfl (take_ofW HT_.out HW_.out (by kernel_rfl)) (fun _ _ _ h => h) (Or.inl ⟨by rfl, ?_⟩) hHeld ?_ ?_
           rotate_left
           ·rintro w' ⟨s0, s1⟩
            go_simp
            with_reducible rfl
           rotate_left
           ·simp only [Act.put, List.setIfInBounds_toArray, List.set_cons_zero, List.set_cons_succ, i64_w, i32_w]
            rfl
           refine take_ (i := 5) (N := some 37) (v := ?_) (a' := ?_) #[true, false, true, true, true, true, false, false, false, false, false, false] rfl rfl (take_ofW HT_.out HW_.out (by kernel_rfl)) (fun _ _ _ h => h) (Or.inl ⟨by rfl, ?_⟩) hHeld ?_ ?_
           rotate_left
           ·rintro w' ⟨s0, s1⟩
            go_simp
            with_reducible rfl
           rotate_left
           ·simp only [Act.put, List.setIfInBounds_toArray, List.set_cons_zero, List.set_cons_succ, i64_w, i32_w]
            rfl
           refine one_ (i := 1) (N := some 33) #[true, true, true, true, true, true, false, false, false, false, false, false] rfl rfl (one_of HT_.out (by kernel_rfl)) (by decide) (fun K hK => ?_)
           refine goes_ Tryd.func12 (by kernel_rfl) rfl #[.slice A1 l1.length c1] (by rfl) rfl rfl (by (try simp only [List.map_toArray, List.map_cons, List.map_nil]); first | done | rfl | (simp only [List.length_drop, List.length_take]; rfl)) ?_
           with_reducible refine (stockadelaw18_Table.calls kj3 _ _ l1 t541 _ ?side1 ?side2 A14.out).mono ?_
           (case side1 => repeat (first | exact (Kd.C_below HR1.out HB.out) | (with_reducible refine Kd.C_alloc ?_ _) | (with_reducible refine Kd.C_drewN ?_ _) | (with_reducible refine Kd.C_drew ?_)))
           (case side2 => exact HC1.out)
           rintro e w32 ⟨v542, rfl, ho0, hb⟩
           refine ⟨_, rfl, ?_⟩
           have n0_ := Aside0.mk (Kd.N_elder' (by (with_reducible repeat (first | apply Kd.N_alloc | apply Kd.N_drewN | apply Kd.N_drew)); exact HO538.out) (Kd.N_base (Kd.S_N ho0)) hb)
           have n1_ := Aside0.mk (Kd.N_lower (Kd.N_mono (ok' := fun k_ => some k_ ≠ (.slice Ao29 t536.length co29 : Value).ownBlock ∧ k_ ≠ gb532) (Kd.S_N (Kd.S_bound ho0)) (fun k_ hk_ => ⟨(Kd.fresh' (Kd.N_lt (by (with_reducible repeat (first | apply Kd.N_alloc | apply Kd.N_drewN | apply Kd.N_drew)); exact HO538.out)) k_ hk_.2.1), (Kd.freshB (g := gb532) (o := .cells #[.slice A2_0 l2_0.length c2_0, .int .u32 a2_1] 40 (0, 0)) bk_now k_ hk_.2.1)⟩)) (below_size b_now))
           have n2_ := Aside0.mk (blk_below (g := gb532) (o := .cells #[.slice A2_0 l2_0.length c2_0, .int .u32 a2_1] 40 (0, 0)) bk_now hb)
           have n3_ := Aside0.mk (below_step b_now hb)
           clear HO538
           clear BK532
           clear HB
           have HO538 := n0_
           have HO543 := n1_
           have BK532 := n2_
           have HB := n3_
           clear n0_ n1_ n2_ n3_
           (try clear hb)
           (try clear hb2)
           (try clear hk)
           (try clear hi)
           (try clear ho0)
           obtain ⟨Ao33, co33, eo33⟩ := Kd.N_slice HO543.out
           (first | subst eo33 | (injection eo33 with f1_ f2_ f3_; have f4_ := f1_.symm; have f5_ := f3_.symm; clear f1_ f2_ f3_; subst f4_; subst f5_))
           refine hK.out _ _ ⟨(blk_cell BK532.out 0).trans rfl, (blk_cell BK532.out 1).trans rfl⟩ (fun hHeld => ?_)
           clear hK K
           refine norm_ (a' := ?_) ?_ ?_
           rotate_left
           ·show Act.put _ (some 33) _ = _
            simp only [Act.put, List.setIfInBounds_toArray, List.set_cons_zero, List.set_cons_succ, i64_w, i32_w]
            rfl
           refine one_ (i := 6) (N := some 38) #[true, true, true, true, true, true, true, false, false, false, false, false] rfl rfl (one_of HT_.out (by kernel_rfl)) (by decide) (fun K hK => ?_)
           refine goes_ Tryd.func18 (by kernel_rfl) rfl #[.slice Ao33 t541.length co33, .slice A2_0 l2_0.length c2_0, .int .u32 a2_1] (by rfl) rfl rfl (by (try simp only [List.map_toArray, List.map_cons, List.map_nil]); first | done | rfl | (simp only [List.length_drop, List.length_take]; rfl)) ?_
           with_reducible refine (rule_Judge.calls kj3 _ _ t541 _ _ l2_0 a2_1 t544 t545 _ ?side1 ?side2 ?side3 ?side4 A15.out).mono ?_
           (case side1 => repeat (first | exact (Kd.N_reads' HO543.out).2.2 | (with_reducible refine Kd.C_alloc ?_ _) | (with_reducible refine Kd.C_drewN ?_ _) | (with_reducible refine Kd.C_drew ?_)))
           (case side2 => exact (Kd.N_reads' HO543.out).2.1)
           (case side3 => repeat (first | exact (Kd.C_below HR2_0.out HB.out) | (with_reducible refine Kd.C_alloc ?_ _) | (with_reducible refine Kd.C_drewN ?_ _) | (with_reducible refine Kd.C_drew ?_)))
           (case side4 => exact HC2_0.out)
           rintro e w34 ⟨rfl, hb⟩
           refine ⟨_, rfl, ?_⟩
           have n0_ := Aside0.mk (Kd.N_below (by (with_reducible repeat (first | apply Kd.N_alloc | apply Kd.N_drewN | apply Kd.N_drew)); exact HO538.out) hb)
           have n1_ := Aside0.mk (Kd.N_below (by (with_reducible repeat (first | apply Kd.N_alloc | apply Kd.N_drewN | apply Kd.N_drew)); exact HO543.out) hb)
           have n2_ := Aside0.mk (blk_below (g := gb532) (o := .cells #[.slice A2_0 l2_0.length c2_0, .int .u32 a2_1] 40 (0, 0)) bk_now hb)
           have n3_ := Aside0.mk (below_step b_now hb)
           clear HO538
           clear HO543
           clear BK532
           clear HB
           have HO538 := n0_
           have HO543 := n1_
           have BK532 := n2_
           have HB := n3_
           clear n0_ n1_ n2_ n3_
           (try clear hb)
           (try clear hb2)
           (try clear hk)
           (try clear hi)
           refine hK.out _ _ ⟨(blk_cell BK532.out 0).trans rfl, (blk_cell BK532.out 1).trans rfl⟩ (fun hHeld => ?_)
           clear hK K
           refine norm_ (a' := ?_) ?_ ?_
           rotate_left
           ·show Act.put _ (some 38) _ = _
            simp only [Act.put, List.setIfInBounds_toArray, List.set_cons_zero, List.set_cons_succ, i64_w, i32_w]
            rfl
           refine pure_ (i := 7) (N := some 31) (v := ?_) (a' := ?_) #[true, true, true, true, true, true, true, true, false, false, false, false] rfl rfl (any_of HT_.out (by kernel_rfl)) (fun _ _ _ h => h) (Or.inl ⟨by rfl, ?_⟩) ?_ ?_
           rotate_left
           ·intro w'
            go_simp
            with_reducible rfl
           rotate_left
           ·simp only [Act.put, List.setIfInBounds_toArray, List.set_cons_zero, List.set_cons_succ, i64_w, i32_w]
            rfl
           refine pure_ (i := 8) (N := some 39) (v := ?_) (a' := ?_) #[true, true, true, true, true, true, true, true, true, false, false, false] rfl rfl (any_of HT_.out (by kernel_rfl)) (fun _ _ _ h => h) (Or.inl ⟨by rfl, ?_⟩) ?_ ?_
           rotate_left
           ·intro w'
            go_simp
            with_reducible rfl
           rotate_left
           ·simp only [Act.put, List.setIfInBounds_toArray, List.set_cons_zero, List.set_cons_succ, i64_w, i32_w]
            rfl
           refine pure_ (i := 9) (N := some 40) (v := ?_) (a' := ?_) #[true, true, true, true, true, true, true, true, true, true, false, false] rfl rfl (any_of HT_.out (by kernel_rfl)) (fun _ _ _ h => h) (Or.inl ⟨by rfl, ?_⟩) ?_ ?_
           rotate_left
           ·intro w'
            go_simp
            with_reducible rfl
           rotate_left
           ·simp only [Act.put, List.setIfInBounds_toArray, List.set_cons_zero, List.set_cons_succ, i64_w, i32_w]
            rfl
           refine pure_ (i := 10) (N := some 9) (v := ?_) (a' := ?_) #[true, true, true, true, true, true, true, true, true, true, true, false] rfl rfl (any_of HT_.out (by kernel_rfl)) (fun _ _ _ h => h) (Or.inl ⟨by rfl, ?_⟩) ?_ ?_
           rotate_left
           ·intro w'
            go_simp
            with_reducible rfl
           rotate_left
           ·simp only [Act.put, List.setIfInBounds_toArray, List.set_cons_zero, List.set_cons_succ, i64_w, i32_w]
            rfl
           refine pure_ (i := 11) (N := some 10) (v := ?_) (a' := ?_) #[true, true, true, true, true, true, true, true, true, true, true, true] rfl rfl (any_of HT_.out (by kernel_rfl)) (fun _ _ _ h => h) (Or.inl ⟨by rfl, ?_⟩) ?_ ?_
           rotate_left
           ·intro w'
            go_simp
            with_reducible rfl
           rotate_left
           ·simp only [Act.put, List.setIfInBounds_toArray, List.set_cons_zero, List.set_cons_succ, i64_w, i32_w]
            rfl
           refine done_ (done_of HT_.out (by kernel_rfl)) ?_
           try go_wp2_with (first | ((with_reducible refine gate_callee (f := 12) rfl ?_); refine sh_call (some 42) Tryd.func12 #[.slice A0 l0.length c0] ?_; (with_reducible refine (stockadelaw18_Table.calls kj3 _ _ l0 t546 _ ?side1 ?side2 A16.out).mono ?_); (case side1 => repeat (first | exact (Kd.C_below HR0.out HB.out) | (with_reducible refine Kd.C_alloc ?_ _) | (with_reducible refine Kd.C_drewN ?_ _) | (with_reducible refine Kd.C_drew ?_))); (case side2 => exact HC0.out); rintro e w35 ⟨v547, rfl, ho0, hb⟩; refine ⟨_, rfl, ?_⟩; have HO548 := Aside0.mk (Kd.N_lower (Kd.N_mono (ok' := fun k_ => some k_ ≠ (.slice Ao29 t536.length co29 : Value).ownBlock ∧ some k_ ≠ (.slice Ao33 t541.length co33 : Value).ownBlock ∧ k_ ≠ gb532) (Kd.S_N (Kd.S_bound ho0)) (fun k_ hk_ => ⟨(Kd.fresh' (Kd.N_lt (by (with_reducible repeat (first | apply Kd.N_alloc | apply Kd.N_drewN | apply Kd.N_drew)); exact HO538.out)) k_ hk_.2.1), (Kd.fresh' (Kd.N_lt (by (with_reducible repeat (first | apply Kd.N_alloc | apply Kd.N_drewN | apply Kd.N_drew)); exact HO543.out)) k_ hk_.2.1), (Kd.freshB (g := gb532) (o := .cells #[.slice A2_0 l2_0.length c2_0, .int .u32 a2_1] 40 (0, 0)) bk_now k_ hk_.2.1)⟩)) (below_size b_now)); replace HO538 := Aside0.mk (Kd.N_elder' (by (with_reducible repeat (first | apply Kd.N_alloc | apply Kd.N_drewN | apply Kd.N_drew)); exact HO538.out) (Kd.N_base (Kd.S_N ho0)) hb); replace HO543 := Aside0.mk (Kd.N_elder' (by (with_reducible repeat (first | apply Kd.N_alloc | apply Kd.N_drewN | apply Kd.N_drew)); exact HO543.out) (Kd.N_base (Kd.S_N ho0)) hb); replace BK532 := sh_k BK532 hb; replace HB := sh_b (w := w) hb; (try clear hb); (try clear hb2); (try clear hk); (try clear hi); (try clear ho0)) | ((with_reducible refine gate_callee (f := 12) rfl ?_); refine sh_call (some 44) Tryd.func12 #[.slice A1 l1.length c1] ?_; (with_reducible refine (stockadelaw18_Table.calls kj3 _ _ l1 t549 _ ?side1 ?side2 A17.out).mono ?_); (case side1 => repeat (first | exact (Kd.C_below HR1.out HB.out) | (with_reducible refine Kd.C_alloc ?_ _) | (with_reducible refine Kd.C_drewN ?_ _) | (with_reducible refine Kd.C_drew ?_))); (case side2 => exact HC1.out); rintro e w36 ⟨v550, rfl, ho0, hb⟩; refine ⟨_, rfl, ?_⟩; have HO551 := Aside0.mk (Kd.N_lower (Kd.N_mono (ok' := fun k_ => some k_ ≠ (.slice Ao29 t536.length co29 : Value).ownBlock ∧ some k_ ≠ (.slice Ao33 t541.length co33 : Value).ownBlock ∧ some k_ ≠ (v547 : Value).ownBlock ∧ k_ ≠ gb532) (Kd.S_N (Kd.S_bound ho0)) (fun k_ hk_ => ⟨(Kd.fresh' (Kd.N_lt (by (with_reducible repeat (first | apply Kd.N_alloc | apply Kd.N_drewN | apply Kd.N_drew)); exact HO538.out)) k_ hk_.2.1), (Kd.fresh' (Kd.N_lt (by (with_reducible repeat (first | apply Kd.N_alloc | apply Kd.N_drewN | apply Kd.N_drew)); exact HO543.out)) k_ hk_.2.1), (Kd.fresh' (Kd.N_lt (by (with_reducible repeat (first | apply Kd.N_alloc | apply Kd.N_drewN | apply Kd.N_drew)); exact HO548.out)) k_ hk_.2.1), (Kd.freshB (g := gb532) (o := .cells #[.slice A2_0 l2_0.length c2_0, .int .u32 a2_1] 40 (0, 0)) bk_now k_ hk_.2.1)⟩)) (below_size b_now)); replace HO538 := Aside0.mk (Kd.N_elder' (by (with_reducible repeat (first | apply Kd.N_alloc | apply Kd.N_drewN | apply Kd.N_drew)); exact HO538.out) (Kd.N_base (Kd.S_N ho0)) hb); replace HO543 := Aside0.mk (Kd.N_elder' (by (with_reducible repeat (first | apply Kd.N_alloc | apply Kd.N_drewN | apply Kd.N_drew)); exact HO543.out) (Kd.N_base (Kd.S_N ho0)) hb); replace HO548 := Aside0.mk (Kd.N_elder' (by (with_reducible repeat (first | apply Kd.N_alloc | apply Kd.N_drewN | apply Kd.N_drew)); exact HO548.out) (Kd.N_base (Kd.S_N ho0)) hb); replace BK532 := sh_k BK532 hb; replace HB := sh_b (w := w) hb; (try clear hb); (try clear hb2); (try clear hk); (try clear hi); (try clear ho0); obtain ⟨Ao38, co38, eo38⟩ := Kd.N_slice HO551.out; subst eo38) | ((with_reducible refine gate_builtin (b := .append) (xs := #[.tmp 42, .tmp 44]) rfl ?_); (try (refine gate_guard (by rfl) ?_; dsimp only)); at_builtin; refine Kd.N_append_rows k53 (w0 := w) w.heap.size rfl (.tmp 42) (.tmp 44) 25 53 (.agg #[(.slice none 0 0), (.int .u32 0)]) 32 rfl Tryd.underlying25 info53 rfl (by decide) (by omega) v547 t546 t549 _ _ _ (fun k_ => some k_ ≠ (.slice Ao29 t536.length co29 : Value).ownBlock ∧ some k_ ≠ (.slice Ao33 t541.length co33 : Value).ownBlock ∧ k_ ≠ gb532) (fun k_ => ((fun k_ => some k_ ≠ (.slice Ao29 t536.length co29 : Value).ownBlock ∧ some k_ ≠ (.slice Ao33 t541.length co33 : Value).ownBlock ∧ k_ ≠ gb532)) k_ ∧ some k_ ≠ (v547 : Value).ownBlock) rfl rfl ?aO ?aR (fun _ hk => hk) ?aF ?aB ?aS ?aL ?_; (case aR => exact (by skip; exact Kd.N_F (Kd.N_mono (ok' := (fun k_ => ((fun k_ => some k_ ≠ (.slice Ao29 t536.length co29 : Value).ownBlock ∧ some k_ ≠ (.slice Ao33 t541.length co33 : Value).ownBlock ∧ k_ ≠ gb532)) k_ ∧ some k_ ≠ (v547 : Value).ownBlock)) (HO551.out) (fun k_ hk => ⟨⟨hk.1, ⟨hk.2.1, hk.2.2.2⟩⟩, hk.2.2.1⟩)))); (case aB => exact b_now); (case aF => exact (fun k_ hk => ⟨Kd.fresh' (Kd.N_lt (by (with_reducible repeat (first | apply Kd.N_alloc | apply Kd.N_drewN | apply Kd.N_drew)); exact HO538.out)) k_ hk, Kd.fresh' (Kd.N_lt (by (with_reducible repeat (first | apply Kd.N_alloc | apply Kd.N_drewN | apply Kd.N_drew)); exact HO543.out)) k_ hk, Kd.freshB (g := gb532) (o := .cells #[.slice A2_0 l2_0.length c2_0, .int .u32 a2_1] 40 (0, 0)) bk_now k_ hk⟩)); (case aO => exact (by (with_reducible repeat (first | apply Kd.N_alloc | apply Kd.N_drewN | apply Kd.N_drew)); exact Kd.N_mono HO548.out (fun _ hk => ⟨hk.1.1, ⟨hk.1.2.1, hk.1.2.2⟩⟩))); (case aS => exact (below_size b_now)); (case aL => have := LMc18.out; omega); intro v553 w37 ho hb hg hat; rw [← Ny552.out] at ho; have n0_ := Aside0.mk (blk_grown (g := gb532) (o := .cells #[.slice A2_0 l2_0.length c2_0, .int .u32 a2_1] 40 (0, 0)) bk_now hg (Kd.N_ne HO548.out BK532.out (by decide))); have n1_ := Aside0.mk (Kd.N_afterv (ok := (fun k_ => some k_ ≠ (.slice Ao33 t541.length co33 : Value).ownBlock ∧ some k_ ≠ (.slice Ao38 t549.length co38 : Value).ownBlock ∧ k_ ≠ gb532)) (by (with_reducible repeat (first | apply Kd.N_alloc | apply Kd.N_drewN | apply Kd.N_drew)); exact Kd.N_mono HO538.out (fun _ hk => ⟨⟨hk.1.1.2, ⟨hk.2, hk.1.1.1⟩⟩, hk.1.2⟩)) hg hat); have n2_ := Aside0.mk (Kd.N_afterv (ok := (fun k_ => some k_ ≠ (.slice Ao29 t536.length co29 : Value).ownBlock ∧ some k_ ≠ (.slice Ao38 t549.length co38 : Value).ownBlock ∧ k_ ≠ gb532)) (by (with_reducible repeat (first | apply Kd.N_alloc | apply Kd.N_drewN | apply Kd.N_drew)); exact Kd.N_mono HO543.out (fun _ hk => ⟨⟨hk.1.1.1, ⟨hk.2, hk.1.1.2⟩⟩, hk.1.2⟩)) hg hat); have n3_ := Aside0.mk (Kd.N_afterv (ok := (fun k_ => some k_ ≠ (.slice Ao29 t536.length co29 : Value).ownBlock ∧ some k_ ≠ (.slice Ao33 t541.length co33 : Value).ownBlock ∧ k_ ≠ gb532)) (by (with_reducible repeat (first | apply Kd.N_alloc | apply Kd.N_drewN | apply Kd.N_drew)); exact Kd.N_mono HO551.out (fun _ hk => ⟨⟨hk.1, ⟨hk.2.1, hk.2.2.2⟩⟩, hk.2.2.1⟩)) hg hat); have n4_ := Aside0.mk (hb); have n5_ := Aside0.mk (ho); clear BK532; clear HO538; clear HO543; clear HO551; clear HB; clear HO548; have BK532 := n0_; have HO538 := n1_; have HO543 := n2_; have HO551 := n3_; have HB := n4_; have HO554 := n5_; clear n0_ n1_ n2_ n3_ n4_ n5_; clear ho hb hg hat; have hcz39 := blk_all2 BK532.out; obtain ⟨Ao40, co40, eo40⟩ := Kd.N_slice HO554.out; subst eo40) | ((with_reducible refine gate_callee (f := 18) rfl ?_); refine sh_call (some 52) Tryd.func18 #[.slice Ao40 y552.length co40, .slice A2_0 l2_0.length c2_0, .int .u32 a2_1] ?_; (with_reducible refine (rule_Judge.calls kj3 _ _ y552 _ _ l2_0 a2_1 t555 t556 _ ?side1 ?side2 ?side3 ?side4 A19.out).mono ?_); (case side1 => repeat (first | exact (Kd.N_reads' HO554.out).2.2 | (with_reducible refine Kd.C_alloc ?_ _) | (with_reducible refine Kd.C_drewN ?_ _) | (with_reducible refine Kd.C_drew ?_))); (case side2 => exact (Kd.N_reads' HO554.out).2.1); (case side3 => repeat (first | exact (Kd.C_below HR2_0.out HB.out) | (with_reducible refine Kd.C_alloc ?_ _) | (with_reducible refine Kd.C_drewN ?_ _) | (with_reducible refine Kd.C_drew ?_))); (case side4 => exact HC2_0.out); rintro e w41 ⟨rfl, hb⟩; refine ⟨_, rfl, ?_⟩; replace HO538 := Aside0.mk (Kd.N_below (by (with_reducible repeat (first | apply Kd.N_alloc | apply Kd.N_drewN | apply Kd.N_drew)); exact HO538.out) hb); replace HO543 := Aside0.mk (Kd.N_below (by (with_reducible repeat (first | apply Kd.N_alloc | apply Kd.N_drewN | apply Kd.N_drew)); exact HO543.out) hb); replace HO551 := Aside0.mk (Kd.N_below (by (with_reducible repeat (first | apply Kd.N_alloc | apply Kd.N_drewN | apply Kd.N_drew)); exact HO551.out) hb); replace HO554 := Aside0.mk (Kd.N_below (by (with_reducible repeat (first | apply Kd.N_alloc | apply Kd.N_drewN | apply Kd.N_drew)); exact HO554.out) hb); replace BK532 := sh_k BK532 hb; replace HB := sh_b (w := w) hb; (try clear hb); (try clear hb2); (try clear hk); (try clear hi); have p557 : 0 ≤ (t540 : Int) := of_decide_eq_true (by first | (with_reducible assumption) | assumption); have q557 : t540 < (l0.length : Int) := of_decide_eq_true (by first | (with_reducible assumption) | assumption); obtain ⟨ad557, A557_0, c557_0, e557, hx557_0, hx557_1, hl557_0, hi557_0⟩ := at_T46 HR0.out t540 p557 q557; cases e557; replace hx557_0 := (HB.out.cell (World.block_lt_of_cell? w _ hx557_0)).trans hx557_0; replace hx557_1 := (HB.out.cell (World.block_lt_of_cell? w _ hx557_1)).trans hx557_1; have HR557_0 := Aside0.mk hi557_0; have HC557_0 := Aside0.mk hl557_0; clear hi557_0 hl557_0; replace p557 := eq_true p557; replace q557 := eq_true q557) | (go_at_call 11; (with_reducible refine (stockadelaw18_wakes.calls kj3  t558 _ ?side1 (by first | rfl | exact HRT.out) A26.out).mono ?_); (case side1 => repeat (first | exact (Kd.C_below HRG0.out HB.out) | (with_reducible refine Kd.C_alloc ?_ _) | (with_reducible refine Kd.C_drewN ?_ _) | (with_reducible refine Kd.C_drew ?_))); rintro e w42 ⟨rfl, hb⟩; replace HO538 := Aside0.mk (Kd.N_below (by (with_reducible repeat (first | apply Kd.N_alloc | apply Kd.N_drewN | apply Kd.N_drew)); exact HO538.out) hb); replace HO543 := Aside0.mk (Kd.N_below (by (with_reducible repeat (first | apply Kd.N_alloc | apply Kd.N_drewN | apply Kd.N_drew)); exact HO543.out) hb); replace HO551 := Aside0.mk (Kd.N_below (by (with_reducible repeat (first | apply Kd.N_alloc | apply Kd.N_drewN | apply Kd.N_drew)); exact HO551.out) hb); replace HO554 := Aside0.mk (Kd.N_below (by (with_reducible repeat (first | apply Kd.N_alloc | apply Kd.N_drewN | apply Kd.N_drew)); exact HO554.out) hb); replace BK532 := sh_k BK532 hb; replace HB := sh_b (w := w) hb; (try clear hb); (try clear hb2); (try clear hk); (try clear hi)))
           go_ret
           exact ⟨ret_now, b_now⟩
          ·rw [if_neg c25] at H
           have c25b0 : (t539 == ((rd_T46 l0 t540).f1)) = false := beq_eq_false_iff_ne.mpr c25
           have c25b1 : (t539 != ((rd_T46 l0 t540).f1)) = true := bne_iff_ne.mpr c25
           obtain rfl := Option.some.inj H
           exact absurd HRT.out (by simp)
         ·rw [if_neg c24] at H
          exact absurd H (by simp)
        ·rw [if_neg c23] at H
         have c23b0 : decide (t540 < (l0.length : Int)) = false := decide_eq_false c23
         clear c23
         obtain rfl := Option.some.inj H
         exact absurd HRT.out (by simp)
       ·rw [if_neg c22] at H
        have c22b0 : (t556 == t540) = false := beq_eq_false_iff_ne.mpr c22
        have c22b1 : (t556 != t540) = true := bne_iff_ne.mpr c22
        obtain rfl := Option.some.inj H
        exact absurd HRT.out (by simp)
      ·rw [if_neg c21] at H
       have c21b0 : (t555 == t539) = false := beq_eq_false_iff_ne.mpr c21
       have c21b1 : (t555 != t539) = true := bne_iff_ne.mpr c21
       obtain rfl := Option.some.inj H
       exact absurd HRT.out (by simp)
     ·rw [if_neg c20] at H
      have c20b0 : decide (0 ≤ t540) = false := decide_eq_false c20
      clear c20
      by_cases c43 : t545 ≥ 0
      ·rw [if_pos c43] at H
       have c43b0 : decide (0 ≤ t545) = true := decide_eq_true c43
       clear c43
       by_cases c44 : t539 = 0
       ·rw [if_pos c44] at H
        have c44b0 : (t539 == 0) = true := beq_iff_eq.mpr c44
        have c44b1 : (t539 != 0) = false := bne_eq_false_iff_eq.mpr c44
        clear c44
        by_cases c45 : t555 = t544
        ·rw [if_pos c45] at H
         have c45b0 : (t555 == t544) = true := beq_iff_eq.mpr c45
         have c45b1 : (t555 != t544) = false := bne_eq_false_iff_eq.mpr c45
         clear c45
         by_cases c46 : t556 = (wrap64 ((l0.length : Int) + t545))
         ·rw [if_pos c46] at H
          have c46b0 : (t556 == (wrap64 ((l0.length : Int) + t545))) = true := beq_iff_eq.mpr c46
          have c46b1 : (t556 != (wrap64 ((l0.length : Int) + t545))) = false := bne_eq_false_iff_eq.mpr c46
          clear c46
          replace H := Option.bind_eq_some_iff.mp H; obtain ⟨t559, A470, H⟩ := H; try dsimp only at H
          have A47 := Aside0.mk A470
          clear A470
          obtain rfl := Option.some.inj H
          try go_wp2
          have n0_ := Aside0.mk (blk_drew BK532.out)
          have n1_ := Aside0.mk (below_drew1 HB.out)
          clear BK532
          clear HB
          have BK532 := n0_
          have HB := n1_
          clear n0_ n1_
          refine start_ (n := 12) (S := fun w' => w'.cell? ⟨gb532, 0, none⟩ = some (.slice A2_0 l2_0.length c2_0) ∧ w'.cell? ⟨gb532, 1, none⟩ = some (.int .u32 a2_1)) (ds := []) #[false, false, false, false, false, false, false, false, false, false, false, false] (by kernel_rfl) rfl rfl ⟨(blk_cell BK532.out 0).trans rfl, (blk_cell BK532.out 1).trans rfl⟩ (fun hHeld => ?_); refine with_tabW stockadelaw18_RuleFirst.tab3 stockadelaw18_RuleFirst.bits3 (fun HT_ HW_ => ?_)
          generalize wc.drew = w48 at BK532 HB hHeld ⊢
          refine pure_ (i := 0) (N := some 22) (v := ?_) (a' := ?_) #[true, false, false, false, false, false, false, false, false, false, false, false] rfl rfl (any_of HT_.out (by kernel_rfl)) (fun _ _ _ h => h) (Or.inl ⟨by rfl, ?_⟩) ?_ ?_
          rotate_left
          ·intro w'
           go_simp
           with_reducible rfl
          rotate_left
          ·simp only [Act.put, List.setIfInBounds_toArray, List.set_cons_zero, List.set_cons_succ, i64_w, i32_w]
           rfl
          refine pure_ (i := 2) (N := some 24) (v := ?_) (a' := ?_) #[true, false, true, false, false, false, false, false, false, false, false, false] rfl rfl (any_of HT_.out (by kernel_rfl)) (fun _ _ _ h => h) (Or.inl ⟨by rfl, ?_⟩) ?_ ?_
          rotate_left
          ·intro w'
           go_simp
           with_reducible rfl
          rotate_left
          ·simp only [Act.put, List.setIfInBounds_toArray, List.set_cons_zero, List.set_cons_succ, i64_w, i32_w]
           rfl
          refine pure_ (i := 4) (N := some 26) (v := ?_) (a' := ?_) #[true, false, true, false, true, false, false, false, false, false, false, false] rfl rfl (any_of HT_.out (by kernel_rfl)) (fun _ _ _ h => h) (Or.inl ⟨by rfl, ?_⟩) ?_ ?_
          rotate_left
          ·intro w'
           go_simp
           with_reducible rfl
          rotate_left
          ·simp only [Act.put, List.setIfInBounds_toArray, List.set_cons_zero, List.set_cons_succ, i64_w, i32_w]
           rfl
          refine take_ (i := 3) (N := some 25) (v := ?_) (a' := ?_) #[true, false, true, true, true, false, false, false, false, false, false, false] rfl rfl (take_ofW HT_.out HW_.out (by kernel_rfl)) (fun _ _ _ h => h) (Or.inl ⟨by rfl, ?_⟩) hHeld ?_ ?_
          rotate_left
          ·rintro w' ⟨s0, s1⟩
           go_simp
           with_reducible rfl
          rotate_left
          ·simp only [Act.put, List.setIfInBounds_toArray, List.set_cons_zero, List.set_cons_succ, i64_w, i32_w]
           rfl
          refine take_ (i := 5) (N := some 27) (v := ?_) (a' := ?_) #[true, false, true, true, true, true, false, false, false, false, false, false] rfl rfl (take_ofW HT_.out HW_.out (by kernel_rfl)) (fun _ _ _ h => h) (Or.inl ⟨by rfl, ?_⟩) hHeld ?_ ?_
          rotate_left
          ·rintro w' ⟨s0, s1⟩
           go_simp
           with_reducible rfl
          rotate_left
          ·simp only [Act.put, List.setIfInBounds_toArray, List.set_cons_zero, List.set_cons_succ, i64_w, i32_w]
           rfl
          refine one_ (i := 1) (N := some 23) #[true, true, true, true, true, true, false, false, false, false, false, false] rfl rfl (one_of HT_.out (by kernel_rfl)) (by decide) (fun K hK => ?_)
          refine goes_ Tryd.func12 (by kernel_rfl) rfl #[.slice A0 l0.length c0] (by rfl) rfl rfl (by (try simp only [List.map_toArray, List.map_cons, List.map_nil]); first | done | rfl | (simp only [List.length_drop, List.length_take]; rfl)) ?_
          with_reducible refine (stockadelaw18_Table.calls kj3 _ _ l0 t536 _ ?side1 ?side2 A12.out).mono ?_
          (case side1 => repeat (first | exact (Kd.C_below HR0.out HB.out) | (with_reducible refine Kd.C_alloc ?_ _) | (with_reducible refine Kd.C_drewN ?_ _) | (with_reducible refine Kd.C_drew ?_)))
          (case side2 => exact HC0.out)
          rintro e w49 ⟨v537, rfl, ho0, hb⟩
          refine ⟨_, rfl, ?_⟩
          have n0_ := Aside0.mk (Kd.N_lower (Kd.N_mono (ok' := fun k_ => k_ ≠ gb532) (Kd.S_N (Kd.S_bound ho0)) (fun k_ hk_ => (Kd.freshB (g := gb532) (o := .cells #[.slice A2_0 l2_0.length c2_0, .int .u32 a2_1] 40 (0, 0)) bk_now k_ hk_.2.1))) (below_size b_now))
          have n1_ := Aside0.mk (blk_below (g := gb532) (o := .cells #[.slice A2_0 l2_0.length c2_0, .int .u32 a2_1] 40 (0, 0)) bk_now hb)
          have n2_ := Aside0.mk (below_step b_now hb)
          clear BK532
          clear HB
          have HO538 := n0_
          have BK532 := n1_
          have HB := n2_
          clear n0_ n1_ n2_
          (try clear hb)
          (try clear hb2)
          (try clear hk)
          (try clear hi)
          (try clear ho0)
          obtain ⟨Ao50, co50, eo50⟩ := Kd.N_slice HO538.out
          (first | subst eo50 | (injection eo50 with f1_ f2_ f3_; have f4_ := f1_.symm; have f5_ := f3_.symm; clear f1_ f2_ f3_; subst f4_; subst f5_))
          refine hK.out _ _ ⟨(blk_cell BK532.out 0).trans rfl, (blk_cell BK532.out 1).trans rfl⟩ (fun hHeld => ?_)
          clear hK K
          refine norm_ (a' := ?_) ?_ ?_
          rotate_left
          ·show Act.put _ (some 23) _ = _
           simp only [Act.put, List.setIfInBounds_toArray, List.set_cons_zero, List.set_cons_succ, i64_w, i32_w]
           rfl
          refine one_ (i := 6) (N := some 28) #[true, true, true, true, true, true, true, false, false, false, false, false] rfl rfl (one_of HT_.out (by kernel_rfl)) (by decide) (fun K hK => ?_)
          refine goes_ Tryd.func18 (by kernel_rfl) rfl #[.slice Ao50 t536.length co50, .slice A2_0 l2_0.length c2_0, .int .u32 a2_1] (by rfl) rfl rfl (by (try simp only [List.map_toArray, List.map_cons, List.map_nil]); first | done | rfl | (simp only [List.length_drop, List.length_take]; rfl)) ?_
          with_reducible refine (rule_Judge.calls kj3 _ _ t536 _ _ l2_0 a2_1 t539 t540 _ ?side1 ?side2 ?side3 ?side4 A13.out).mono ?_
          (case side1 => repeat (first | exact (Kd.N_reads' HO538.out).2.2 | (with_reducible refine Kd.C_alloc ?_ _) | (with_reducible refine Kd.C_drewN ?_ _) | (with_reducible refine Kd.C_drew ?_)))
          (case side2 => exact (Kd.N_reads' HO538.out).2.1)
          (case side3 => repeat (first | exact (Kd.C_below HR2_0.out HB.out) | (with_reducible refine Kd.C_alloc ?_ _) | (with_reducible refine Kd.C_drewN ?_ _) | (with_reducible refine Kd.C_drew ?_)))
          (case side4 => exact HC2_0.out)
          rintro e w51 ⟨rfl, hb⟩
          refine ⟨_, rfl, ?_⟩
          have n0_ := Aside0.mk (Kd.N_below (by (with_reducible repeat (first | apply Kd.N_alloc | apply Kd.N_drewN | apply Kd.N_drew)); exact HO538.out) hb)
          have n1_ := Aside0.mk (blk_below (g := gb532) (o := .cells #[.slice A2_0 l2_0.length c2_0, .int .u32 a2_1] 40 (0, 0)) bk_now hb)
          have n2_ := Aside0.mk (below_step b_now hb)
          clear HO538
          clear BK532
          clear HB
          have HO538 := n0_
          have BK532 := n1_
          have HB := n2_
          clear n0_ n1_ n2_
          (try clear hb)
          (try clear hb2)
          (try clear hk)
          (try clear hi)
          refine hK.out _ _ ⟨(blk_cell BK532.out 0).trans rfl, (blk_cell BK532.out 1).trans rfl⟩ (fun hHeld => ?_)
          clear hK K
          refine norm_ (a' := ?_) ?_ ?_
          rotate_left
          ·show Act.put _ (some 28) _ = _
           simp only [Act.put, List.setIfInBounds_toArray, List.set_cons_zero, List.set_cons_succ, i64_w, i32_w]
           rfl
          refine pure_ (i := 7) (N := some 21) (v := ?_) (a' := ?_) #[true, true, true, true, true, true, true, true, false, false, false, false] rfl rfl (any_of HT_.out (by kernel_rfl)) (fun _ _ _ h => h) (Or.inl ⟨by rfl, ?_⟩) ?_ ?_
          rotate_left
          ·intro w'
           go_simp
           with_reducible rfl
          rotate_left
          ·simp only [Act.put, List.setIfInBounds_toArray, List.set_cons_zero, List.set_cons_succ, i64_w, i32_w]
           rfl
          refine pure_ (i := 8) (N := some 29) (v := ?_) (a' := ?_) #[true, true, true, true, true, true, true, true, true, false, false, false] rfl rfl (any_of HT_.out (by kernel_rfl)) (fun _ _ _ h => h) (Or.inl ⟨by rfl, ?_⟩) ?_ ?_
          rotate_left
          ·intro w'
           go_simp
           with_reducible rfl
          rotate_left
          ·simp only [Act.put, List.setIfInBounds_toArray, List.set_cons_zero, List.set_cons_succ, i64_w, i32_w]
           rfl
          refine pure_ (i := 9) (N := some 30) (v := ?_) (a' := ?_) #[true, true, true, true, true, true, true, true, true, true, false, false] rfl rfl (any_of HT_.out (by kernel_rfl)) (fun _ _ _ h => h) (Or.inl ⟨by rfl, ?_⟩) ?_ ?_
          rotate_left
          ·intro w'
           go_simp
           with_reducible rfl
          rotate_left
          ·simp only [Act.put, List.setIfInBounds_toArray, List.set_cons_zero, List.set_cons_succ, i64_w, i32_w]
           rfl
          refine pure_ (i := 10) (N := some 7) (v := ?_) (a' := ?_) #[true, true, true, true, true, true, true, true, true, true, true, false] rfl rfl (any_of HT_.out (by kernel_rfl)) (fun _ _ _ h => h) (Or.inl ⟨by rfl, ?_⟩) ?_ ?_
          rotate_left
          ·intro w'
           go_simp
           with_reducible rfl
          rotate_left
          ·simp only [Act.put, List.setIfInBounds_toArray, List.set_cons_zero, List.set_cons_succ, i64_w, i32_w]
           rfl
          refine pure_ (i := 11) (N := some 8) (v := ?_) (a' := ?_) #[true, true, true, true, true, true, true, true, true, true, true, true] rfl rfl (any_of HT_.out (by kernel_rfl)) (fun _ _ _ h => h) (Or.inl ⟨by rfl, ?_⟩) ?_ ?_
          rotate_left
          ·intro w'
           go_simp
           with_reducible rfl
          rotate_left
          ·simp only [Act.put, List.setIfInBounds_toArray, List.set_cons_zero, List.set_cons_succ, i64_w, i32_w]
           rfl
          refine done_ (done_of HT_.out (by kernel_rfl)) ?_
          try go_wp2
          have n0_ := Aside0.mk (Kd.N_drew HO538.out)
          have n1_ := Aside0.mk (blk_drew BK532.out)
          have n2_ := Aside0.mk (below_drew1 HB.out)
          clear HO538
          clear BK532
          clear HB
          have HO538 := n0_
          have BK532 := n1_
          have HB := n2_
          clear n0_ n1_ n2_
          refine start_ (n := 12) (S := fun w' => w'.cell? ⟨gb532, 0, none⟩ = some (.slice A2_0 l2_0.length c2_0) ∧ w'.cell? ⟨gb532, 1, none⟩ = some (.int .u32 a2_1)) (ds := []) #[false, false, false, false, false, false, false, false, false, false, false, false] (by kernel_rfl) rfl rfl ⟨(blk_cell BK532.out 0).trans rfl, (blk_cell BK532.out 1).trans rfl⟩ (fun hHeld => ?_); refine with_tabW stockadelaw18_RuleFirst.tab4 stockadelaw18_RuleFirst.bits4 (fun HT_ HW_ => ?_)
          generalize w51.drew = w52 at HO538 BK532 HB hHeld ⊢
          refine pure_ (i := 0) (N := some 32) (v := ?_) (a' := ?_) #[true, false, false, false, false, false, false, false, false, false, false, false] rfl rfl (any_of HT_.out (by kernel_rfl)) (fun _ _ _ h => h) (Or.inl ⟨by rfl, ?_⟩) ?_ ?_
          rotate_left
          ·intro w'
           go_simp
           with_reducible rfl
          rotate_left
          ·simp only [Act.put, List.setIfInBounds_toArray, List.set_cons_zero, List.set_cons_succ, i64_w, i32_w]
           rfl
          refine pure_ (i := 2) (N := some 34) (v := ?_) (a' := ?_) #[true, false, true, false, false, false, false, false, false, false, false, false] rfl rfl (any_of HT_.out (by kernel_rfl)) (fun _ _ _ h => h) (Or.inl ⟨by rfl, ?_⟩) ?_ ?_
          rotate_left
          ·intro w'
           go_simp
           with_reducible rfl
          rotate_left
          ·simp only [Act.put, List.setIfInBounds_toArray, List.set_cons_zero, List.set_cons_succ, i64_w, i32_w]
           rfl
          refine pure_ (i := 4) (N := some 36) (v := ?_) (a' := ?_) #[true, false, true, false, true, false, false, false, false, false, false, false] rfl rfl (any_of HT_.out (by kernel_rfl)) (fun _ _ _ h => h) (Or.inl ⟨by rfl, ?_⟩) ?_ ?_
          rotate_left
          ·intro w'
           go_simp
           with_reducible rfl
          rotate_left
          ·simp only [Act.put, List.setIfInBounds_toArray, List.set_cons_zero, List.set_cons_succ, i64_w, i32_w]
           rfl
          refine take_ (i := 3) (N := some 35) (v := ?_) (a' := ?_) #[true, false, true, true, true, false, false, false, false, false, false, false] rfl rfl (take_ofW HT_.out HW_.out (by kernel_rfl)) (fun _ _ _ h => h) (Or.inl ⟨by rfl, ?_⟩) hHeld ?_ ?_
          rotate_left
          ·rintro w' ⟨s0, s1⟩
           go_simp
           with_reducible rfl
          rotate_left
          ·simp only [Act.put, List.setIfInBounds_toArray, List.set_cons_zero, List.set_cons_succ, i64_w, i32_w]
           rfl
          refine take_ (i := 5) (N := some 37) (v := ?_) (a' := ?_) #[true, false, true, true, true, true, false, false, false, false, false, false] rfl rfl (take_ofW HT_.out HW_.out (by kernel_rfl)) (fun _ _ _ h => h) (Or.inl ⟨by rfl, ?_⟩) hHeld ?_ ?_
          rotate_left
          ·rintro w' ⟨s0, s1⟩
           go_simp
           with_reducible rfl
          rotate_left
          ·simp only [Act.put, List.setIfInBounds_toArray, List.set_cons_zero, List.set_cons_succ, i64_w, i32_w]
           rfl
          refine one_ (i := 1) (N := some 33) #[true, true, true, true, true, true, false, false, false, false, false, false] rfl rfl (one_of HT_.out (by kernel_rfl)) (by decide) (fun K hK => ?_)
          refine goes_ Tryd.func12 (by kernel_rfl) rfl #[.slice A1 l1.length c1] (by rfl) rfl rfl (by (try simp only [List.map_toArray, List.map_cons, List.map_nil]); first | done | rfl | (simp only [List.length_drop, List.length_take]; rfl)) ?_
          with_reducible refine (stockadelaw18_Table.calls kj3 _ _ l1 t541 _ ?side1 ?side2 A14.out).mono ?_
          (case side1 => repeat (first | exact (Kd.C_below HR1.out HB.out) | (with_reducible refine Kd.C_alloc ?_ _) | (with_reducible refine Kd.C_drewN ?_ _) | (with_reducible refine Kd.C_drew ?_)))
          (case side2 => exact HC1.out)
          rintro e w53 ⟨v542, rfl, ho0, hb⟩
          refine ⟨_, rfl, ?_⟩
          have n0_ := Aside0.mk (Kd.N_elder' (by (with_reducible repeat (first | apply Kd.N_alloc | apply Kd.N_drewN | apply Kd.N_drew)); exact HO538.out) (Kd.N_base (Kd.S_N ho0)) hb)
          have n1_ := Aside0.mk (Kd.N_lower (Kd.N_mono (ok' := fun k_ => some k_ ≠ (.slice Ao50 t536.length co50 : Value).ownBlock ∧ k_ ≠ gb532) (Kd.S_N (Kd.S_bound ho0)) (fun k_ hk_ => ⟨(Kd.fresh' (Kd.N_lt (by (with_reducible repeat (first | apply Kd.N_alloc | apply Kd.N_drewN | apply Kd.N_drew)); exact HO538.out)) k_ hk_.2.1), (Kd.freshB (g := gb532) (o := .cells #[.slice A2_0 l2_0.length c2_0, .int .u32 a2_1] 40 (0, 0)) bk_now k_ hk_.2.1)⟩)) (below_size b_now))
          have n2_ := Aside0.mk (blk_below (g := gb532) (o := .cells #[.slice A2_0 l2_0.length c2_0, .int .u32 a2_1] 40 (0, 0)) bk_now hb)
          have n3_ := Aside0.mk (below_step b_now hb)
          clear HO538
          clear BK532
          clear HB
          have HO538 := n0_
          have HO543 := n1_
          have BK532 := n2_
          have HB := n3_
          clear n0_ n1_ n2_ n3_
          (try clear hb)
          (try clear hb2)
          (try clear hk)
          (try clear hi)
          (try clear ho0)
          obtain ⟨Ao54, co54, eo54⟩ := Kd.N_slice HO543.out
          (first | subst eo54 | (injection eo54 with f1_ f2_ f3_; have f4_ := f1_.symm; have f5_ := f3_.symm; clear f1_ f2_ f3_; subst f4_; subst f5_))
          refine hK.out _ _ ⟨(blk_cell BK532.out 0).trans rfl, (blk_cell BK532.out 1).trans rfl⟩ (fun hHeld => ?_)
          clear hK K
          refine norm_ (a' := ?_) ?_ ?_
          rotate_left
          ·show Act.put _ (some 33) _ = _
           simp only [Act.put, List.setIfInBounds_toArray, List.set_cons_zero, List.set_cons_succ, i64_w, i32_w]
           rfl
          refine one_ (i := 6) (N := some 38) #[true, true, true, true, true, true, true, false, false, false, false, false] rfl rfl (one_of HT_.out (by kernel_rfl)) (by decide) (fun K hK => ?_)
          refine goes_ Tryd.func18 (by kernel_rfl) rfl #[.slice Ao54 t541.length co54, .slice A2_0 l2_0.length c2_0, .int .u32 a2_1] (by rfl) rfl rfl (by (try simp only [List.map_toArray, List.map_cons, List.map_nil]); first | done | rfl | (simp only [List.length_drop, List.length_take]; rfl)) ?_
          with_reducible refine (rule_Judge.calls kj3 _ _ t541 _ _ l2_0 a2_1 t544 t545 _ ?side1 ?side2 ?side3 ?side4 A15.out).mono ?_
          (case side1 => repeat (first | exact (Kd.N_reads' HO543.out).2.2 | (with_reducible refine Kd.C_alloc ?_ _) | (with_reducible refine Kd.C_drewN ?_ _) | (with_reducible refine Kd.C_drew ?_)))
          (case side2 => exact (Kd.N_reads' HO543.out).2.1)
          (case side3 => repeat (first | exact (Kd.C_below HR2_0.out HB.out) | (with_reducible refine Kd.C_alloc ?_ _) | (with_reducible refine Kd.C_drewN ?_ _) | (with_reducible refine Kd.C_drew ?_)))
          (case side4 => exact HC2_0.out)
          rintro e w55 ⟨rfl, hb⟩
          refine ⟨_, rfl, ?_⟩
          have n0_ := Aside0.mk (Kd.N_below (by (with_reducible repeat (first | apply Kd.N_alloc | apply Kd.N_drewN | apply Kd.N_drew)); exact HO538.out) hb)
          have n1_ := Aside0.mk (Kd.N_below (by (with_reducible repeat (first | apply Kd.N_alloc | apply Kd.N_drewN | apply Kd.N_drew)); exact HO543.out) hb)
          have n2_ := Aside0.mk (blk_below (g := gb532) (o := .cells #[.slice A2_0 l2_0.length c2_0, .int .u32 a2_1] 40 (0, 0)) bk_now hb)
          have n3_ := Aside0.mk (below_step b_now hb)
          clear HO538
          clear HO543
          clear BK532
          clear HB
          have HO538 := n0_
          have HO543 := n1_
          have BK532 := n2_
          have HB := n3_
          clear n0_ n1_ n2_ n3_
          (try clear hb)
          (try clear hb2)
          (try clear hk)
          (try clear hi)
          refine hK.out _ _ ⟨(blk_cell BK532.out 0).trans rfl, (blk_cell BK532.out 1).trans rfl⟩ (fun hHeld => ?_)
          clear hK K
          refine norm_ (a' := ?_) ?_ ?_
          rotate_left
          ·show Act.put _ (some 38) _ = _
           simp only [Act.put, List.setIfInBounds_toArray, List.set_cons_zero, List.set_cons_succ, i64_w, i32_w]
           rfl
          refine pure_ (i := 7) (N := some 31) (v := ?_) (a' := ?_) #[true, true, true, true, true, true, true, true, false, false, false, false] rfl rfl (any_of HT_.out (by kernel_rfl)) (fun _ _ _ h => h) (Or.inl ⟨by rfl, ?_⟩) ?_ ?_
          rotate_left
          ·intro w'
           go_simp
           with_reducible rfl
          rotate_left
          ·simp only [Act.put, List.setIfInBounds_toArray, List.set_cons_zero, List.set_cons_succ, i64_w, i32_w]
           rfl
          refine pure_ (i := 8) (N := some 39) (v := ?_) (a' := ?_) #[true, true, true, true, true, true, true, true, true, false, false, false] rfl rfl (any_of HT_.out (by kernel_rfl)) (fun _ _ _ h => h) (Or.inl ⟨by rfl, ?_⟩) ?_ ?_
          rotate_left
          ·intro w'
           go_simp
           with_reducible rfl
          rotate_left
          ·simp only [Act.put, List.setIfInBounds_toArray, List.set_cons_zero, List.set_cons_succ, i64_w, i32_w]
           rfl
          refine pure_ (i := 9) (N := some 40) (v := ?_) (a' := ?_) #[true, true, true, true, true, true, true, true, true, true, false, false] rfl rfl (any_of HT_.out (by kernel_rfl)) (fun _ _ _ h => h) (Or.inl ⟨by rfl, ?_⟩) ?_ ?_
          rotate_left
          ·intro w'
           go_simp
           with_reducible rfl
          rotate_left
          ·simp only [Act.put, List.setIfInBounds_toArray, List.set_cons_zero, List.set_cons_succ, i64_w, i32_w]
           rfl
          refine pure_ (i := 10) (N := some 9) (v := ?_) (a' := ?_) #[true, true, true, true, true, true, true, true, true, true, true, false] rfl rfl (any_of HT_.out (by kernel_rfl)) (fun _ _ _ h => h) (Or.inl ⟨by rfl, ?_⟩) ?_ ?_
          rotate_left
          ·intro w'
           go_simp
           with_reducible rfl
          rotate_left
          ·simp only [Act.put, List.setIfInBounds_toArray, List.set_cons_zero, List.set_cons_succ, i64_w, i32_w]
           rfl
          refine pure_ (i := 11) (N := some 10) (v := ?_) (a' := ?_) #[true, true, true, true, true, true, true, true, true, true, true, true] rfl rfl (any_of HT_.out (by kernel_rfl)) (fun _ _ _ h => h) (Or.inl ⟨by rfl, ?_⟩) ?_ ?_
          rotate_left
          ·intro w'
           go_simp
           with_reducible rfl
          rotate_left
          ·simp only [Act.put, List.setIfInBounds_toArray, List.set_cons_zero, List.set_cons_succ, i64_w, i32_w]
           rfl
          refine done_ (done_of HT_.out (by kernel_rfl)) ?_
          try go_wp2_with (first | ((with_reducible refine gate_callee (f := 12) rfl ?_); refine sh_call (some 42) Tryd.func12 #[.slice A0 l0.length c0] ?_; (with_reducible refine (stockadelaw18_Table.calls kj3 _ _ l0 t546 _ ?side1 ?side2 A16.out).mono ?_); (case side1 => repeat (first | exact (Kd.C_below HR0.out HB.out) | (with_reducible refine Kd.C_alloc ?_ _) | (with_reducible refine Kd.C_drewN ?_ _) | (with_reducible refine Kd.C_drew ?_))); (case side2 => exact HC0.out); rintro e w56 ⟨v547, rfl, ho0, hb⟩; refine ⟨_, rfl, ?_⟩; have HO548 := Aside0.mk (Kd.N_lower (Kd.N_mono (ok' := fun k_ => some k_ ≠ (.slice Ao50 t536.length co50 : Value).ownBlock ∧ some k_ ≠ (.slice Ao54 t541.length co54 : Value).ownBlock ∧ k_ ≠ gb532) (Kd.S_N (Kd.S_bound ho0)) (fun k_ hk_ => ⟨(Kd.fresh' (Kd.N_lt (by (with_reducible repeat (first | apply Kd.N_alloc | apply Kd.N_drewN | apply Kd.N_drew)); exact HO538.out)) k_ hk_.2.1), (Kd.fresh' (Kd.N_lt (by (with_reducible repeat (first | apply Kd.N_alloc | apply Kd.N_drewN | apply Kd.N_drew)); exact HO543.out)) k_ hk_.2.1), (Kd.freshB (g := gb532) (o := .cells #[.slice A2_0 l2_0.length c2_0, .int .u32 a2_1] 40 (0, 0)) bk_now k_ hk_.2.1)⟩)) (below_size b_now)); replace HO538 := Aside0.mk (Kd.N_elder' (by (with_reducible repeat (first | apply Kd.N_alloc | apply Kd.N_drewN | apply Kd.N_drew)); exact HO538.out) (Kd.N_base (Kd.S_N ho0)) hb); replace HO543 := Aside0.mk (Kd.N_elder' (by (with_reducible repeat (first | apply Kd.N_alloc | apply Kd.N_drewN | apply Kd.N_drew)); exact HO543.out) (Kd.N_base (Kd.S_N ho0)) hb); replace BK532 := sh_k BK532 hb; replace HB := sh_b (w := w) hb; (try clear hb); (try clear hb2); (try clear hk); (try clear hi); (try clear ho0)) | ((with_reducible refine gate_callee (f := 12) rfl ?_); refine sh_call (some 44) Tryd.func12 #[.slice A1 l1.length c1] ?_; (with_reducible refine (stockadelaw18_Table.calls kj3 _ _ l1 t549 _ ?side1 ?side2 A17.out).mono ?_); (case side1 => repeat (first | exact (Kd.C_below HR1.out HB.out) | (with_reducible refine Kd.C_alloc ?_ _) | (with_reducible refine Kd.C_drewN ?_ _) | (with_reducible refine Kd.C_drew ?_))); (case side2 => exact HC1.out); rintro e w57 ⟨v550, rfl, ho0, hb⟩; refine ⟨_, rfl, ?_⟩; have HO551 := Aside0.mk (Kd.N_lower (Kd.N_mono (ok' := fun k_ => some k_ ≠ (.slice Ao50 t536.length co50 : Value).ownBlock ∧ some k_ ≠ (.slice Ao54 t541.length co54 : Value).ownBlock ∧ some k_ ≠ (v547 : Value).ownBlock ∧ k_ ≠ gb532) (Kd.S_N (Kd.S_bound ho0)) (fun k_ hk_ => ⟨(Kd.fresh' (Kd.N_lt (by (with_reducible repeat (first | apply Kd.N_alloc | apply Kd.N_drewN | apply Kd.N_drew)); exact HO538.out)) k_ hk_.2.1), (Kd.fresh' (Kd.N_lt (by (with_reducible repeat (first | apply Kd.N_alloc | apply Kd.N_drewN | apply Kd.N_drew)); exact HO543.out)) k_ hk_.2.1), (Kd.fresh' (Kd.N_lt (by (with_reducible repeat (first | apply Kd.N_alloc | apply Kd.N_drewN | apply Kd.N_drew)); exact HO548.out)) k_ hk_.2.1), (Kd.freshB (g := gb532) (o := .cells #[.slice A2_0 l2_0.length c2_0, .int .u32 a2_1] 40 (0, 0)) bk_now k_ hk_.2.1)⟩)) (below_size b_now)); replace HO538 := Aside0.mk (Kd.N_elder' (by (with_reducible repeat (first | apply Kd.N_alloc | apply Kd.N_drewN | apply Kd.N_drew)); exact HO538.out) (Kd.N_base (Kd.S_N ho0)) hb); replace HO543 := Aside0.mk (Kd.N_elder' (by (with_reducible repeat (first | apply Kd.N_alloc | apply Kd.N_drewN | apply Kd.N_drew)); exact HO543.out) (Kd.N_base (Kd.S_N ho0)) hb); replace HO548 := Aside0.mk (Kd.N_elder' (by (with_reducible repeat (first | apply Kd.N_alloc | apply Kd.N_drewN | apply Kd.N_drew)); exact HO548.out) (Kd.N_base (Kd.S_N ho0)) hb); replace BK532 := sh_k BK532 hb; replace HB := sh_b (w := w) hb; (try clear hb); (try clear hb2); (try clear hk); (try clear hi); (try clear ho0); obtain ⟨Ao59, co59, eo59⟩ := Kd.N_slice HO551.out; subst eo59) | ((with_reducible refine gate_builtin (b := .append) (xs := #[.tmp 42, .tmp 44]) rfl ?_); (try (refine gate_guard (by rfl) ?_; dsimp only)); at_builtin; refine Kd.N_append_rows k53 (w0 := w) w.heap.size rfl (.tmp 42) (.tmp 44) 25 53 (.agg #[(.slice none 0 0), (.int .u32 0)]) 32 rfl Tryd.underlying25 info53 rfl (by decide) (by omega) v547 t546 t549 _ _ _ (fun k_ => some k_ ≠ (.slice Ao50 t536.length co50 : Value).ownBlock ∧ some k_ ≠ (.slice Ao54 t541.length co54 : Value).ownBlock ∧ k_ ≠ gb532) (fun k_ => ((fun k_ => some k_ ≠ (.slice Ao50 t536.length co50 : Value).ownBlock ∧ some k_ ≠ (.slice Ao54 t541.length co54 : Value).ownBlock ∧ k_ ≠ gb532)) k_ ∧ some k_ ≠ (v547 : Value).ownBlock) rfl rfl ?aO ?aR (fun _ hk => hk) ?aF ?aB ?aS ?aL ?_; (case aR => exact (by skip; exact Kd.N_F (Kd.N_mono (ok' := (fun k_ => ((fun k_ => some k_ ≠ (.slice Ao50 t536.length co50 : Value).ownBlock ∧ some k_ ≠ (.slice Ao54 t541.length co54 : Value).ownBlock ∧ k_ ≠ gb532)) k_ ∧ some k_ ≠ (v547 : Value).ownBlock)) (HO551.out) (fun k_ hk => ⟨⟨hk.1, ⟨hk.2.1, hk.2.2.2⟩⟩, hk.2.2.1⟩)))); (case aB => exact b_now); (case aF => exact (fun k_ hk => ⟨Kd.fresh' (Kd.N_lt (by (with_reducible repeat (first | apply Kd.N_alloc | apply Kd.N_drewN | apply Kd.N_drew)); exact HO538.out)) k_ hk, Kd.fresh' (Kd.N_lt (by (with_reducible repeat (first | apply Kd.N_alloc | apply Kd.N_drewN | apply Kd.N_drew)); exact HO543.out)) k_ hk, Kd.freshB (g := gb532) (o := .cells #[.slice A2_0 l2_0.length c2_0, .int .u32 a2_1] 40 (0, 0)) bk_now k_ hk⟩)); (case aO => exact (by (with_reducible repeat (first | apply Kd.N_alloc | apply Kd.N_drewN | apply Kd.N_drew)); exact Kd.N_mono HO548.out (fun _ hk => ⟨hk.1.1, ⟨hk.1.2.1, hk.1.2.2⟩⟩))); (case aS => exact (below_size b_now)); (case aL => have := LMc18.out; omega); intro v553 w58 ho hb hg hat; rw [← Ny552.out] at ho; have n0_ := Aside0.mk (blk_grown (g := gb532) (o := .cells #[.slice A2_0 l2_0.length c2_0, .int .u32 a2_1] 40 (0, 0)) bk_now hg (Kd.N_ne HO548.out BK532.out (by decide))); have n1_ := Aside0.mk (Kd.N_afterv (ok := (fun k_ => some k_ ≠ (.slice Ao54 t541.length co54 : Value).ownBlock ∧ some k_ ≠ (.slice Ao59 t549.length co59 : Value).ownBlock ∧ k_ ≠ gb532)) (by (with_reducible repeat (first | apply Kd.N_alloc | apply Kd.N_drewN | apply Kd.N_drew)); exact Kd.N_mono HO538.out (fun _ hk => ⟨⟨hk.1.1.2, ⟨hk.2, hk.1.1.1⟩⟩, hk.1.2⟩)) hg hat); have n2_ := Aside0.mk (Kd.N_afterv (ok := (fun k_ => some k_ ≠ (.slice Ao50 t536.length co50 : Value).ownBlock ∧ some k_ ≠ (.slice Ao59 t549.length co59 : Value).ownBlock ∧ k_ ≠ gb532)) (by (with_reducible repeat (first | apply Kd.N_alloc | apply Kd.N_drewN | apply Kd.N_drew)); exact Kd.N_mono HO543.out (fun _ hk => ⟨⟨hk.1.1.1, ⟨hk.2, hk.1.1.2⟩⟩, hk.1.2⟩)) hg hat); have n3_ := Aside0.mk (Kd.N_afterv (ok := (fun k_ => some k_ ≠ (.slice Ao50 t536.length co50 : Value).ownBlock ∧ some k_ ≠ (.slice Ao54 t541.length co54 : Value).ownBlock ∧ k_ ≠ gb532)) (by (with_reducible repeat (first | apply Kd.N_alloc | apply Kd.N_drewN | apply Kd.N_drew)); exact Kd.N_mono HO551.out (fun _ hk => ⟨⟨hk.1, ⟨hk.2.1, hk.2.2.2⟩⟩, hk.2.2.1⟩)) hg hat); have n4_ := Aside0.mk (hb); have n5_ := Aside0.mk (ho); clear BK532; clear HO538; clear HO543; clear HO551; clear HB; clear HO548; have BK532 := n0_; have HO538 := n1_; have HO543 := n2_; have HO551 := n3_; have HB := n4_; have HO554 := n5_; clear n0_ n1_ n2_ n3_ n4_ n5_; clear ho hb hg hat; have hcz60 := blk_all2 BK532.out; obtain ⟨Ao61, co61, eo61⟩ := Kd.N_slice HO554.out; subst eo61) | ((with_reducible refine gate_callee (f := 18) rfl ?_); refine sh_call (some 52) Tryd.func18 #[.slice Ao61 y552.length co61, .slice A2_0 l2_0.length c2_0, .int .u32 a2_1] ?_; (with_reducible refine (rule_Judge.calls kj3 _ _ y552 _ _ l2_0 a2_1 t555 t556 _ ?side1 ?side2 ?side3 ?side4 A19.out).mono ?_); (case side1 => repeat (first | exact (Kd.N_reads' HO554.out).2.2 | (with_reducible refine Kd.C_alloc ?_ _) | (with_reducible refine Kd.C_drewN ?_ _) | (with_reducible refine Kd.C_drew ?_))); (case side2 => exact (Kd.N_reads' HO554.out).2.1); (case side3 => repeat (first | exact (Kd.C_below HR2_0.out HB.out) | (with_reducible refine Kd.C_alloc ?_ _) | (with_reducible refine Kd.C_drewN ?_ _) | (with_reducible refine Kd.C_drew ?_))); (case side4 => exact HC2_0.out); rintro e w62 ⟨rfl, hb⟩; refine ⟨_, rfl, ?_⟩; replace HO538 := Aside0.mk (Kd.N_below (by (with_reducible repeat (first | apply Kd.N_alloc | apply Kd.N_drewN | apply Kd.N_drew)); exact HO538.out) hb); replace HO543 := Aside0.mk (Kd.N_below (by (with_reducible repeat (first | apply Kd.N_alloc | apply Kd.N_drewN | apply Kd.N_drew)); exact HO543.out) hb); replace HO551 := Aside0.mk (Kd.N_below (by (with_reducible repeat (first | apply Kd.N_alloc | apply Kd.N_drewN | apply Kd.N_drew)); exact HO551.out) hb); replace HO554 := Aside0.mk (Kd.N_below (by (with_reducible repeat (first | apply Kd.N_alloc | apply Kd.N_drewN | apply Kd.N_drew)); exact HO554.out) hb); replace BK532 := sh_k BK532 hb; replace HB := sh_b (w := w) hb; (try clear hb); (try clear hb2); (try clear hk); (try clear hi)) | (go_at_call 11; (with_reducible refine (stockadelaw18_wakes.calls kj3  t559 _ ?side1 (by first | rfl | exact HRT.out) A47.out).mono ?_); (case side1 => repeat (first | exact (Kd.C_below HRG0.out HB.out) | (with_reducible refine Kd.C_alloc ?_ _) | (with_reducible refine Kd.C_drewN ?_ _) | (with_reducible refine Kd.C_drew ?_))); rintro e w63 ⟨rfl, hb⟩; replace HO538 := Aside0.mk (Kd.N_below (by (with_reducible repeat (first | apply Kd.N_alloc | apply Kd.N_drewN | apply Kd.N_drew)); exact HO538.out) hb); replace HO543 := Aside0.mk (Kd.N_below (by (with_reducible repeat (first | apply Kd.N_alloc | apply Kd.N_drewN | apply Kd.N_drew)); exact HO543.out) hb); replace HO551 := Aside0.mk (Kd.N_below (by (with_reducible repeat (first | apply Kd.N_alloc | apply Kd.N_drewN | apply Kd.N_drew)); exact HO551.out) hb); replace HO554 := Aside0.mk (Kd.N_below (by (with_reducible repeat (first | apply Kd.N_alloc | apply Kd.N_drewN | apply Kd.N_drew)); exact HO554.out) hb); replace BK532 := sh_k BK532 hb; replace HB := sh_b (w := w) hb; (try clear hb); (try clear hb2); (try clear hk); (try clear hi)))
          go_ret
          exact ⟨ret_now, b_now⟩
         ·rw [if_neg c46] at H
          have c46b0 : (t556 == (wrap64 ((l0.length : Int) + t545))) = false := beq_eq_false_iff_ne.mpr c46
          have c46b1 : (t556 != (wrap64 ((l0.length : Int) + t545))) = true := bne_iff_ne.mpr c46
          obtain rfl := Option.some.inj H
          exact absurd HRT.out (by simp)
        ·rw [if_neg c45] at H
         have c45b0 : (t555 == t544) = false := beq_eq_false_iff_ne.mpr c45
         have c45b1 : (t555 != t544) = true := bne_iff_ne.mpr c45
         obtain rfl := Option.some.inj H
         exact absurd HRT.out (by simp)
       ·rw [if_neg c44] at H
        have c44b0 : (t539 == 0) = false := beq_eq_false_iff_ne.mpr c44
        have c44b1 : (t539 != 0) = true := bne_iff_ne.mpr c44
        obtain rfl := Option.some.inj H
        exact absurd HRT.out (by simp)
      ·rw [if_neg c43] at H
       have c43b0 : decide (0 ≤ t545) = false := decide_eq_false c43
       clear c43
       by_cases c64 : t539 = 0
       ·rw [if_pos c64] at H
        have c64b0 : (t539 == 0) = true := beq_iff_eq.mpr c64
        have c64b1 : (t539 != 0) = false := bne_eq_false_iff_eq.mpr c64
        clear c64
        by_cases c65 : t544 = 0
        ·rw [if_pos c65] at H
         have c65b0 : (t544 == 0) = true := beq_iff_eq.mpr c65
         have c65b1 : (t544 != 0) = false := bne_eq_false_iff_eq.mpr c65
         clear c65
         by_cases c66 : t555 = 0
         ·rw [if_pos c66] at H
          have c66b0 : (t555 == 0) = true := beq_iff_eq.mpr c66
          have c66b1 : (t555 != 0) = false := bne_eq_false_iff_eq.mpr c66
          clear c66
          by_cases c67 : t556 = (-1)
          ·rw [if_pos c67] at H
           have c67b0 : (t556 == (-1)) = true := beq_iff_eq.mpr c67
           have c67b1 : (t556 != (-1)) = false := bne_eq_false_iff_eq.mpr c67
           clear c67
           by_cases c68 : t540 = (-1)
           ·rw [if_pos c68] at H
            have c68b0 : (t540 == (-1)) = true := beq_iff_eq.mpr c68
            have c68b1 : (t540 != (-1)) = false := bne_eq_false_iff_eq.mpr c68
            clear c68
            by_cases c69 : t545 = (-1)
            ·rw [if_pos c69] at H
             have c69b0 : (t545 == (-1)) = true := beq_iff_eq.mpr c69
             have c69b1 : (t545 != (-1)) = false := bne_eq_false_iff_eq.mpr c69
             clear c69
             replace H := Option.bind_eq_some_iff.mp H; obtain ⟨t560, A700, H⟩ := H; try dsimp only at H
             have A70 := Aside0.mk A700
             clear A700
             obtain rfl := Option.some.inj H
             try go_wp2
             have n0_ := Aside0.mk (blk_drew BK532.out)
             have n1_ := Aside0.mk (below_drew1 HB.out)
             clear BK532
             clear HB
             have BK532 := n0_
             have HB := n1_
             clear n0_ n1_
             refine start_ (n := 12) (S := fun w' => w'.cell? ⟨gb532, 0, none⟩ = some (.slice A2_0 l2_0.length c2_0) ∧ w'.cell? ⟨gb532, 1, none⟩ = some (.int .u32 a2_1)) (ds := []) #[false, false, false, false, false, false, false, false, false, false, false, false] (by kernel_rfl) rfl rfl ⟨(blk_cell BK532.out 0).trans rfl, (blk_cell BK532.out 1).trans rfl⟩ (fun hHeld => ?_); refine with_tabW stockadelaw18_RuleFirst.tab3 stockadelaw18_RuleFirst.bits3 (fun HT_ HW_ => ?_)
             generalize wc.drew = w71 at BK532 HB hHeld ⊢
             refine pure_ (i := 0) (N := some 22) (v := ?_) (a' := ?_) #[true, false, false, false, false, false, false, false, false, false, false, false] rfl rfl (any_of HT_.out (by kernel_rfl)) (fun _ _ _ h => h) (Or.inl ⟨by rfl, ?_⟩) ?_ ?_
             rotate_left
             ·intro w'
              go_simp
              with_reducible rfl
             rotate_left
             ·simp only [Act.put, List.setIfInBounds_toArray, List.set_cons_zero, List.set_cons_succ, i64_w, i32_w]
              rfl
             refine pure_ (i := 2) (N := some 24) (v := ?_) (a' := ?_) #[true, false, true, false, false, false, false, false, false, false, false, false] rfl rfl (any_of HT_.out (by kernel_rfl)) (fun _ _ _ h => h) (Or.inl ⟨by rfl, ?_⟩) ?_ ?_
             rotate_left
             ·intro w'
              go_simp
              with_reducible rfl
             rotate_left
             ·simp only [Act.put, List.setIfInBounds_toArray, List.set_cons_zero, List.set_cons_succ, i64_w, i32_w]
              rfl
             refine pure_ (i := 4) (N := some 26) (v := ?_) (a' := ?_) #[true, false, true, false, true, false, false, false, false, false, false, false] rfl rfl (any_of HT_.out (by kernel_rfl)) (fun _ _ _ h => h) (Or.inl ⟨by rfl, ?_⟩) ?_ ?_
             rotate_left
             ·intro w'
              go_simp
              with_reducible rfl
             rotate_left
             ·simp only [Act.put, List.setIfInBounds_toArray, List.set_cons_zero, List.set_cons_succ, i64_w, i32_w]
              rfl
             refine take_ (i := 3) (N := some 25) (v := ?_) (a' := ?_) #[true, false, true, true, true, false, false, false, false, false, false, false] rfl rfl (take_ofW HT_.out HW_.out (by kernel_rfl)) (fun _ _ _ h => h) (Or.inl ⟨by rfl, ?_⟩) hHeld ?_ ?_
             rotate_left
             ·rintro w' ⟨s0, s1⟩
              go_simp
              with_reducible rfl
             rotate_left
             ·simp only [Act.put, List.setIfInBounds_toArray, List.set_cons_zero, List.set_cons_succ, i64_w, i32_w]
              rfl
             refine take_ (i := 5) (N := some 27) (v := ?_) (a' := ?_) #[true, false, true, true, true, true, false, false, false, false, false, false] rfl rfl (take_ofW HT_.out HW_.out (by kernel_rfl)) (fun _ _ _ h => h) (Or.inl ⟨by rfl, ?_⟩) hHeld ?_ ?_
             rotate_left
             ·rintro w' ⟨s0, s1⟩
              go_simp
              with_reducible rfl
             rotate_left
             ·simp only [Act.put, List.setIfInBounds_toArray, List.set_cons_zero, List.set_cons_succ, i64_w, i32_w]
              rfl
             refine one_ (i := 1) (N := some 23) #[true, true, true, true, true, true, false, false, false, false, false, false] rfl rfl (one_of HT_.out (by kernel_rfl)) (by decide) (fun K hK => ?_)
             refine goes_ Tryd.func12 (by kernel_rfl) rfl #[.slice A0 l0.length c0] (by rfl) rfl rfl (by (try simp only [List.map_toArray, List.map_cons, List.map_nil]); first | done | rfl | (simp only [List.length_drop, List.length_take]; rfl)) ?_
             with_reducible refine (stockadelaw18_Table.calls kj3 _ _ l0 t536 _ ?side1 ?side2 A12.out).mono ?_
             (case side1 => repeat (first | exact (Kd.C_below HR0.out HB.out) | (with_reducible refine Kd.C_alloc ?_ _) | (with_reducible refine Kd.C_drewN ?_ _) | (with_reducible refine Kd.C_drew ?_)))
             (case side2 => exact HC0.out)
             rintro e w72 ⟨v537, rfl, ho0, hb⟩
             refine ⟨_, rfl, ?_⟩
             have n0_ := Aside0.mk (Kd.N_lower (Kd.N_mono (ok' := fun k_ => k_ ≠ gb532) (Kd.S_N (Kd.S_bound ho0)) (fun k_ hk_ => (Kd.freshB (g := gb532) (o := .cells #[.slice A2_0 l2_0.length c2_0, .int .u32 a2_1] 40 (0, 0)) bk_now k_ hk_.2.1))) (below_size b_now))
             have n1_ := Aside0.mk (blk_below (g := gb532) (o := .cells #[.slice A2_0 l2_0.length c2_0, .int .u32 a2_1] 40 (0, 0)) bk_now hb)
             have n2_ := Aside0.mk (below_step b_now hb)
             clear BK532
             clear HB
             have HO538 := n0_
             have BK532 := n1_
             have HB := n2_
             clear n0_ n1_ n2_
             (try clear hb)
             (try clear hb2)
             (try clear hk)
             (try clear hi)
             (try clear ho0)
             obtain ⟨Ao73, co73, eo73⟩ := Kd.N_slice HO538.out
             (first | subst eo73 | (injection eo73 with f1_ f2_ f3_; have f4_ := f1_.symm; have f5_ := f3_.symm; clear f1_ f2_ f3_; subst f4_; subst f5_))
             refine hK.out _ _ ⟨(blk_cell BK532.out 0).trans rfl, (blk_cell BK532.out 1).trans rfl⟩ (fun hHeld => ?_)
             clear hK K
             refine norm_ (a' := ?_) ?_ ?_
             rotate_left
             ·show Act.put _ (some 23) _ = _
              simp only [Act.put, List.setIfInBounds_toArray, List.set_cons_zero, List.set_cons_succ, i64_w, i32_w]
              rfl
             refine one_ (i := 6) (N := some 28) #[true, true, true, true, true, true, true, false, false, false, false, false] rfl rfl (one_of HT_.out (by kernel_rfl)) (by decide) (fun K hK => ?_)
             refine goes_ Tryd.func18 (by kernel_rfl) rfl #[.slice Ao73 t536.length co73, .slice A2_0 l2_0.length c2_0, .int .u32 a2_1] (by rfl) rfl rfl (by (try simp only [List.map_toArray, List.map_cons, List.map_nil]); first | done | rfl | (simp only [List.length_drop, List.length_take]; rfl)) ?_
             with_reducible refine (rule_Judge.calls kj3 _ _ t536 _ _ l2_0 a2_1 t539 t540 _ ?side1 ?side2 ?side3 ?side4 A13.out).mono ?_
             (case side1 => repeat (first | exact (Kd.N_reads' HO538.out).2.2 | (with_reducible refine Kd.C_alloc ?_ _) | (with_reducible refine Kd.C_drewN ?_ _) | (with_reducible refine Kd.C_drew ?_)))
             (case side2 => exact (Kd.N_reads' HO538.out).2.1)
             (case side3 => repeat (first | exact (Kd.C_below HR2_0.out HB.out) | (with_reducible refine Kd.C_alloc ?_ _) | (with_reducible refine Kd.C_drewN ?_ _) | (with_reducible refine Kd.C_drew ?_)))
             (case side4 => exact HC2_0.out)
             rintro e w74 ⟨rfl, hb⟩
             refine ⟨_, rfl, ?_⟩
             have n0_ := Aside0.mk (Kd.N_below (by (with_reducible repeat (first | apply Kd.N_alloc | apply Kd.N_drewN | apply Kd.N_drew)); exact HO538.out) hb)
             have n1_ := Aside0.mk (blk_below (g := gb532) (o := .cells #[.slice A2_0 l2_0.length c2_0, .int .u32 a2_1] 40 (0, 0)) bk_now hb)
             have n2_ := Aside0.mk (below_step b_now hb)
             clear HO538
             clear BK532
             clear HB
             have HO538 := n0_
             have BK532 := n1_
             have HB := n2_
             clear n0_ n1_ n2_
             (try clear hb)
             (try clear hb2)
             (try clear hk)
             (try clear hi)
             refine hK.out _ _ ⟨(blk_cell BK532.out 0).trans rfl, (blk_cell BK532.out 1).trans rfl⟩ (fun hHeld => ?_)
             clear hK K
             refine norm_ (a' := ?_) ?_ ?_
             rotate_left
             ·show Act.put _ (some 28) _ = _
              simp only [Act.put, List.setIfInBounds_toArray, List.set_cons_zero, List.set_cons_succ, i64_w, i32_w]
              rfl
             refine pure_ (i := 7) (N := some 21) (v := ?_) (a' := ?_) #[true, true, true, true, true, true, true, true, false, false, false, false] rfl rfl (any_of HT_.out (by kernel_rfl)) (fun _ _ _ h => h) (Or.inl ⟨by rfl, ?_⟩) ?_ ?_
             rotate_left
             ·intro w'
              go_simp
              with_reducible rfl
             rotate_left
             ·simp only [Act.put, List.setIfInBounds_toArray, List.set_cons_zero, List.set_cons_succ, i64_w, i32_w]
              rfl
             refine pure_ (i := 8) (N := some 29) (v := ?_) (a' := ?_) #[true, true, true, true, true, true, true, true, true, false, false, false] rfl rfl (any_of HT_.out (by kernel_rfl)) (fun _ _ _ h => h) (Or.inl ⟨by rfl, ?_⟩) ?_ ?_
             rotate_left
             ·intro w'
              go_simp
              with_reducible rfl
             rotate_left
             ·simp only [Act.put, List.setIfInBounds_toArray, List.set_cons_zero, List.set_cons_succ, i64_w, i32_w]
              rfl
             refine pure_ (i := 9) (N := some 30) (v := ?_) (a' := ?_) #[true, true, true, true, true, true, true, true, true, true, false, false] rfl rfl (any_of HT_.out (by kernel_rfl)) (fun _ _ _ h => h) (Or.inl ⟨by rfl, ?_⟩) ?_ ?_
             rotate_left
             ·intro w'
              go_simp
              with_reducible rfl
             rotate_left
             ·simp only [Act.put, List.setIfInBounds_toArray, List.set_cons_zero, List.set_cons_succ, i64_w, i32_w]
              rfl
             refine pure_ (i := 10) (N := some 7) (v := ?_) (a' := ?_) #[true, true, true, true, true, true, true, true, true, true, true, false] rfl rfl (any_of HT_.out (by kernel_rfl)) (fun _ _ _ h => h) (Or.inl ⟨by rfl, ?_⟩) ?_ ?_
             rotate_left
             ·intro w'
              go_simp
              with_reducible rfl
             rotate_left
             ·simp only [Act.put, List.setIfInBounds_toArray, List.set_cons_zero, List.set_cons_succ, i64_w, i32_w]
              rfl
             refine pure_ (i := 11) (N := some 8) (v := ?_) (a' := ?_) #[true, true, true, true, true, true, true, true, true, true, true, true] rfl rfl (any_of HT_.out (by kernel_rfl)) (fun _ _ _ h => h) (Or.inl ⟨by rfl, ?_⟩) ?_ ?_
             rotate_left
             ·intro w'
              go_simp
              with_reducible rfl
             rotate_left
             ·simp only [Act.put, List.setIfInBounds_toArray, List.set_cons_zero, List.set_cons_succ, i64_w, i32_w]
              rfl
             refine done_ (done_of HT_.out (by kernel_rfl)) ?_
             try go_wp2
             have n0_ := Aside0.mk (Kd.N_drew HO538.out)
             have n1_ := Aside0.mk (blk_drew BK532.out)
             have n2_ := Aside0.mk (below_drew1 HB.out)
             clear HO538
             clear BK532
             clear HB
             have HO538 := n0_
             have BK532 := n1_
             have HB := n2_
             clear n0_ n1_ n2_
             refine start_ (n := 12) (S := fun w' => w'.cell? ⟨gb532, 0, none⟩ = some (.slice A2_0 l2_0.length c2_0) ∧ w'.cell? ⟨gb532, 1, none⟩ = some (.int .u32 a2_1)) (ds := []) #[false, false, false, false, false, false, false, false, false, false, false, false] (by kernel_rfl) rfl rfl ⟨(blk_cell BK532.out 0).trans rfl, (blk_cell BK532.out 1).trans rfl⟩ (fun hHeld => ?_); refine with_tabW stockadelaw18_RuleFirst.tab4 stockadelaw18_RuleFirst.bits4 (fun HT_ HW_ => ?_)
             generalize w74.drew = w75 at HO538 BK532 HB hHeld ⊢
             refine pure_ (i := 0) (N := some 32) (v := ?_) (a' := ?_) #[true, false, false, false, false, false, false, false, false, false, false, false] rfl rfl (any_of HT_.out (by kernel_rfl)) (fun _ _ _ h => h) (Or.inl ⟨by rfl, ?_⟩) ?_ ?_
             rotate_left
             ·intro w'
              go_simp
              with_reducible rfl
             rotate_left
             ·simp only [Act.put, List.setIfInBounds_toArray, List.set_cons_zero, List.set_cons_succ, i64_w, i32_w]
              rfl
             refine pure_ (i := 2) (N := some 34) (v := ?_) (a' := ?_) #[true, false, true, false, false, false, false, false, false, false, false, false] rfl rfl (any_of HT_.out (by kernel_rfl)) (fun _ _ _ h => h) (Or.inl ⟨by rfl, ?_⟩) ?_ ?_
             rotate_left
             ·intro w'
              go_simp
              with_reducible rfl
             rotate_left
             ·simp only [Act.put, List.setIfInBounds_toArray, List.set_cons_zero, List.set_cons_succ, i64_w, i32_w]
              rfl
             refine pure_ (i := 4) (N := some 36) (v := ?_) (a' := ?_) #[true, false, true, false, true, false, false, false, false, false, false, false] rfl rfl (any_of HT_.out (by kernel_rfl)) (fun _ _ _ h => h) (Or.inl ⟨by rfl, ?_⟩) ?_ ?_
             rotate_left
             ·intro w'
              go_simp
              with_reducible rfl
             rotate_left
             ·simp only [Act.put, List.setIfInBounds_toArray, List.set_cons_zero, List.set_cons_succ, i64_w, i32_w]
              rfl
             refine take_ (i := 3) (N := some 35) (v := ?_) (a' := ?_) #[true, false, true, true, true, false, false, false, false, false, false, false] rfl rfl (take_ofW HT_.out HW_.out (by kernel_rfl)) (fun _ _ _ h => h) (Or.inl ⟨by rfl, ?_⟩) hHeld ?_ ?_
             rotate_left
             ·rintro w' ⟨s0, s1⟩
              go_simp
              with_reducible rfl
             rotate_left
             ·simp only [Act.put, List.setIfInBounds_toArray, List.set_cons_zero, List.set_cons_succ, i64_w, i32_w]
              rfl
             refine take_ (i := 5) (N := some 37) (v := ?_) (a' := ?_) #[true, false, true, true, true, true, false, false, false, false, false, false] rfl rfl (take_ofW HT_.out HW_.out (by kernel_rfl)) (fun _ _ _ h => h) (Or.inl ⟨by rfl, ?_⟩) hHeld ?_ ?_
             rotate_left
             ·rintro w' ⟨s0, s1⟩
              go_simp
              with_reducible rfl
             rotate_left
             ·simp only [Act.put, List.setIfInBounds_toArray, List.set_cons_zero, List.set_cons_succ, i64_w, i32_w]
              rfl
             refine one_ (i := 1) (N := some 33) #[true, true, true, true, true, true, false, false, false, false, false, false] rfl rfl (one_of HT_.out (by kernel_rfl)) (by decide) (fun K hK => ?_)
             refine goes_ Tryd.func12 (by kernel_rfl) rfl #[.slice A1 l1.length c1] (by rfl) rfl rfl (by (try simp only [List.map_toArray, List.map_cons, List.map_nil]); first | done | rfl | (simp only [List.length_drop, List.length_take]; rfl)) ?_
             with_reducible refine (stockadelaw18_Table.calls kj3 _ _ l1 t541 _ ?side1 ?side2 A14.out).mono ?_
             (case side1 => repeat (first | exact (Kd.C_below HR1.out HB.out) | (with_reducible refine Kd.C_alloc ?_ _) | (with_reducible refine Kd.C_drewN ?_ _) | (with_reducible refine Kd.C_drew ?_)))
             (case side2 => exact HC1.out)
             rintro e w76 ⟨v542, rfl, ho0, hb⟩
             refine ⟨_, rfl, ?_⟩
             have n0_ := Aside0.mk (Kd.N_elder' (by (with_reducible repeat (first | apply Kd.N_alloc | apply Kd.N_drewN | apply Kd.N_drew)); exact HO538.out) (Kd.N_base (Kd.S_N ho0)) hb)
             have n1_ := Aside0.mk (Kd.N_lower (Kd.N_mono (ok' := fun k_ => some k_ ≠ (.slice Ao73 t536.length co73 : Value).ownBlock ∧ k_ ≠ gb532) (Kd.S_N (Kd.S_bound ho0)) (fun k_ hk_ => ⟨(Kd.fresh' (Kd.N_lt (by (with_reducible repeat (first | apply Kd.N_alloc | apply Kd.N_drewN | apply Kd.N_drew)); exact HO538.out)) k_ hk_.2.1), (Kd.freshB (g := gb532) (o := .cells #[.slice A2_0 l2_0.length c2_0, .int .u32 a2_1] 40 (0, 0)) bk_now k_ hk_.2.1)⟩)) (below_size b_now))
             have n2_ := Aside0.mk (blk_below (g := gb532) (o := .cells #[.slice A2_0 l2_0.length c2_0, .int .u32 a2_1] 40 (0, 0)) bk_now hb)
             have n3_ := Aside0.mk (below_step b_now hb)
             clear HO538
             clear BK532
             clear HB
             have HO538 := n0_
             have HO543 := n1_
             have BK532 := n2_
             have HB := n3_
             clear n0_ n1_ n2_ n3_
             (try clear hb)
             (try clear hb2)
             (try clear hk)
             (try clear hi)
             (try clear ho0)
             obtain ⟨Ao77, co77, eo77⟩ := Kd.N_slice HO543.out
             (first | subst eo77 | (injection eo77 with f1_ f2_ f3_; have f4_ := f1_.symm; have f5_ := f3_.symm; clear f1_ f2_ f3_; subst f4_; subst f5_))
             refine hK.out _ _ ⟨(blk_cell BK532.out 0).trans rfl, (blk_cell BK532.out 1).trans rfl⟩ (fun hHeld => ?_)
             clear hK K
             refine norm_ (a' := ?_) ?_ ?_
             rotate_left
             ·show Act.put _ (some 33) _ = _
              simp only [Act.put, List.setIfInBounds_toArray, List.set_cons_zero, List.set_cons_succ, i64_w, i32_w]
              rfl
             refine one_ (i := 6) (N := some 38) #[true, true, true, true, true, true, true, false, false, false, false, false] rfl rfl (one_of HT_.out (by kernel_rfl)) (by decide) (fun K hK => ?_)
             refine goes_ Tryd.func18 (by kernel_rfl) rfl #[.slice Ao77 t541.length co77, .slice A2_0 l2_0.length c2_0, .int .u32 a2_1] (by rfl) rfl rfl (by (try simp only [List.map_toArray, List.map_cons, List.map_nil]); first | done | rfl | (simp only [List.length_drop, List.length_take]; rfl)) ?_
             with_reducible refine (rule_Judge.calls kj3 _ _ t541 _ _ l2_0 a2_1 t544 t545 _ ?side1 ?side2 ?side3 ?side4 A15.out).mono ?_
             (case side1 => repeat (first | exact (Kd.N_reads' HO543.out).2.2 | (with_reducible refine Kd.C_alloc ?_ _) | (with_reducible refine Kd.C_drewN ?_ _) | (with_reducible refine Kd.C_drew ?_)))
             (case side2 => exact (Kd.N_reads' HO543.out).2.1)
             (case side3 => repeat (first | exact (Kd.C_below HR2_0.out HB.out) | (with_reducible refine Kd.C_alloc ?_ _) | (with_reducible refine Kd.C_drewN ?_ _) | (with_reducible refine Kd.C_drew ?_)))
             (case side4 => exact HC2_0.out)
             rintro e w78 ⟨rfl, hb⟩
             refine ⟨_, rfl, ?_⟩
             have n0_ := Aside0.mk (Kd.N_below (by (with_reducible repeat (first | apply Kd.N_alloc | apply Kd.N_drewN | apply Kd.N_drew)); exact HO538.out) hb)
             have n1_ := Aside0.mk (Kd.N_below (by (with_reducible repeat (first | apply Kd.N_alloc | apply Kd.N_drewN | apply Kd.N_drew)); exact HO543.out) hb)
             have n2_ := Aside0.mk (blk_below (g := gb532) (o := .cells #[.slice A2_0 l2_0.length c2_0, .int .u32 a2_1] 40 (0, 0)) bk_now hb)
             have n3_ := Aside0.mk (below_step b_now hb)
             clear HO538
             clear HO543
             clear BK532
             clear HB
             have HO538 := n0_
             have HO543 := n1_
             have BK532 := n2_
             have HB := n3_
             clear n0_ n1_ n2_ n3_
             (try clear hb)
             (try clear hb2)
             (try clear hk)
             (try clear hi)
             refine hK.out _ _ ⟨(blk_cell BK532.out 0).trans rfl, (blk_cell BK532.out 1).trans rfl⟩ (fun hHeld => ?_)
             clear hK K
             refine norm_ (a' := ?_) ?_ ?_
             rotate_left
             ·show Act.put _ (some 38) _ = _
              simp only [Act.put, List.setIfInBounds_toArray, List.set_cons_zero, List.set_cons_succ, i64_w, i32_w]
              rfl
             refine pure_ (i := 7) (N := some 31) (v := ?_) (a' := ?_) #[true, true, true, true, true, true, true, true, false, false, false, false] rfl rfl (any_of HT_.out (by kernel_rfl)) (fun _ _ _ h => h) (Or.inl ⟨by rfl, ?_⟩) ?_ ?_
             rotate_left
             ·intro w'
              go_simp
              with_reducible rfl
             rotate_left
             ·simp only [Act.put, List.setIfInBounds_toArray, List.set_cons_zero, List.set_cons_succ, i64_w, i32_w]
              rfl
             refine pure_ (i := 8) (N := some 39) (v := ?_) (a' := ?_) #[true, true, true, true, true, true, true, true, true, false, false, false] rfl rfl (any_of HT_.out (by kernel_rfl)) (fun _ _ _ h => h) (Or.inl ⟨by rfl, ?_⟩) ?_ ?_
             rotate_left
             ·intro w'
              go_simp
              with_reducible rfl
             rotate_left
             ·simp only [Act.put, List.setIfInBounds_toArray, List.set_cons_zero, List.set_cons_succ, i64_w, i32_w]
              rfl
             refine pure_ (i := 9) (N := some 40) (v := ?_) (a' := ?_) #[true, true, true, true, true, true, true, true, true, true, false, false] rfl rfl (any_of HT_.out (by kernel_rfl)) (fun _ _ _ h => h) (Or.inl ⟨by rfl, ?_⟩) ?_ ?_
             rotate_left
             ·intro w'
              go_simp
              with_reducible rfl
             rotate_left
             ·simp only [Act.put, List.setIfInBounds_toArray, List.set_cons_zero, List.set_cons_succ, i64_w, i32_w]
              rfl
             refine pure_ (i := 10) (N := some 9) (v := ?_) (a' := ?_) #[true, true, true, true, true, true, true, true, true, true, true, false] rfl rfl (any_of HT_.out (by kernel_rfl)) (fun _ _ _ h => h) (Or.inl ⟨by rfl, ?_⟩) ?_ ?_
             rotate_left
             ·intro w'
              go_simp
              with_reducible rfl
             rotate_left
             ·simp only [Act.put, List.setIfInBounds_toArray, List.set_cons_zero, List.set_cons_succ, i64_w, i32_w]
              rfl
             refine pure_ (i := 11) (N := some 10) (v := ?_) (a' := ?_) #[true, true, true, true, true, true, true, true, true, true, true, true] rfl rfl (any_of HT_.out (by kernel_rfl)) (fun _ _ _ h => h) (Or.inl ⟨by rfl, ?_⟩) ?_ ?_
             rotate_left
             ·intro w'
              go_simp
              with_reducible rfl
             rotate_left
             ·simp only [Act.put, List.setIfInBounds_toArray, List.set_cons_zero, List.set_cons_succ, i64_w, i32_w]
              rfl
             refine done_ (done_of HT_.out (by kernel_rfl)) ?_
             try go_wp2_with (first | ((with_reducible refine gate_callee (f := 12) rfl ?_); refine sh_call (some 42) Tryd.func12 #[.slice A0 l0.length c0] ?_; (with_reducible refine (stockadelaw18_Table.calls kj3 _ _ l0 t546 _ ?side1 ?side2 A16.out).mono ?_); (case side1 => repeat (first | exact (Kd.C_below HR0.out HB.out) | (with_reducible refine Kd.C_alloc ?_ _) | (with_reducible refine Kd.C_drewN ?_ _) | (with_reducible refine Kd.C_drew ?_))); (case side2 => exact HC0.out); rintro e w79 ⟨v547, rfl, ho0, hb⟩; refine ⟨_, rfl, ?_⟩; have HO548 := Aside0.mk (Kd.N_lower (Kd.N_mono (ok' := fun k_ => some k_ ≠ (.slice Ao73 t536.length co73 : Value).ownBlock ∧ some k_ ≠ (.slice Ao77 t541.length co77 : Value).ownBlock ∧ k_ ≠ gb532) (Kd.S_N (Kd.S_bound ho0)) (fun k_ hk_ => ⟨(Kd.fresh' (Kd.N_lt (by (with_reducible repeat (first | apply Kd.N_alloc | apply Kd.N_drewN | apply Kd.N_drew)); exact HO538.out)) k_ hk_.2.1), (Kd.fresh' (Kd.N_lt (by (with_reducible repeat (first | apply Kd.N_alloc | apply Kd.N_drewN | apply Kd.N_drew)); exact HO543.out)) k_ hk_.2.1), (Kd.freshB (g := gb532) (o := .cells #[.slice A2_0 l2_0.length c2_0, .int .u32 a2_1] 40 (0, 0)) bk_now k_ hk_.2.1)⟩)) (below_size b_now)); replace HO538 := Aside0.mk (Kd.N_elder' (by (with_reducible repeat (first | apply Kd.N_alloc | apply Kd.N_drewN | apply Kd.N_drew)); exact HO538.out) (Kd.N_base (Kd.S_N ho0)) hb); replace HO543 := Aside0.mk (Kd.N_elder' (by (with_reducible repeat (first | apply Kd.N_alloc | apply Kd.N_drewN | apply Kd.N_drew)); exact HO543.out) (Kd.N_base (Kd.S_N ho0)) hb); replace BK532 := sh_k BK532 hb; replace HB := sh_b (w := w) hb; (try clear hb); (try clear hb2); (try clear hk); (try clear hi); (try clear ho0)) | ((with_reducible refine gate_callee (f := 12) rfl ?_); refine sh_call (some 44) Tryd.func12 #[.slice A1 l1.length c1] ?_; (with_reducible refine (stockadelaw18_Table.calls kj3 _ _ l1 t549 _ ?side1 ?side2 A17.out).mono ?_); (case side1 => repeat (first | exact (Kd.C_below HR1.out HB.out) | (with_reducible refine Kd.C_alloc ?_ _) | (with_reducible refine Kd.C_drewN ?_ _) | (with_reducible refine Kd.C_drew ?_))); (case side2 => exact HC1.out); rintro e w80 ⟨v550, rfl, ho0, hb⟩; refine ⟨_, rfl, ?_⟩; have HO551 := Aside0.mk (Kd.N_lower (Kd.N_mono (ok' := fun k_ => some k_ ≠ (.slice Ao73 t536.length co73 : Value).ownBlock ∧ some k_ ≠ (.slice Ao77 t541.length co77 : Value).ownBlock ∧ some k_ ≠ (v547 : Value).ownBlock ∧ k_ ≠ gb532) (Kd.S_N (Kd.S_bound ho0)) (fun k_ hk_ => ⟨(Kd.fresh' (Kd.N_lt (by (with_reducible repeat (first | apply Kd.N_alloc | apply Kd.N_drewN | apply Kd.N_drew)); exact HO538.out)) k_ hk_.2.1), (Kd.fresh' (Kd.N_lt (by (with_reducible repeat (first | apply Kd.N_alloc | apply Kd.N_drewN | apply Kd.N_drew)); exact HO543.out)) k_ hk_.2.1), (Kd.fresh' (Kd.N_lt (by (with_reducible repeat (first | apply Kd.N_alloc | apply Kd.N_drewN | apply Kd.N_drew)); exact HO548.out)) k_ hk_.2.1), (Kd.freshB (g := gb532) (o := .cells #[.slice A2_0 l2_0.length c2_0, .int .u32 a2_1] 40 (0, 0)) bk_now k_ hk_.2.1)⟩)) (below_size b_now)); replace HO538 := Aside0.mk (Kd.N_elder' (by (with_reducible repeat (first | apply Kd.N_alloc | apply Kd.N_drewN | apply Kd.N_drew)); exact HO538.out) (Kd.N_base (Kd.S_N ho0)) hb); replace HO543 := Aside0.mk (Kd.N_elder' (by (with_reducible repeat (first | apply Kd.N_alloc | apply Kd.N_drewN | apply Kd.N_drew)); exact HO543.out) (Kd.N_base (Kd.S_N ho0)) hb); replace HO548 := Aside0.mk (Kd.N_elder' (by (with_reducible repeat (first | apply Kd.N_alloc | apply Kd.N_drewN | apply Kd.N_drew)); exact HO548.out) (Kd.N_base (Kd.S_N ho0)) hb); replace BK532 := sh_k BK532 hb; replace HB := sh_b (w := w) hb; (try clear hb); (try clear hb2); (try clear hk); (try clear hi); (try clear ho0); obtain ⟨Ao82, co82, eo82⟩ := Kd.N_slice HO551.out; subst eo82) | ((with_reducible refine gate_builtin (b := .append) (xs := #[.tmp 42, .tmp 44]) rfl ?_); (try (refine gate_guard (by rfl) ?_; dsimp only)); at_builtin; refine Kd.N_append_rows k53 (w0 := w) w.heap.size rfl (.tmp 42) (.tmp 44) 25 53 (.agg #[(.slice none 0 0), (.int .u32 0)]) 32 rfl Tryd.underlying25 info53 rfl (by decide) (by omega) v547 t546 t549 _ _ _ (fun k_ => some k_ ≠ (.slice Ao73 t536.length co73 : Value).ownBlock ∧ some k_ ≠ (.slice Ao77 t541.length co77 : Value).ownBlock ∧ k_ ≠ gb532) (fun k_ => ((fun k_ => some k_ ≠ (.slice Ao73 t536.length co73 : Value).ownBlock ∧ some k_ ≠ (.slice Ao77 t541.length co77 : Value).ownBlock ∧ k_ ≠ gb532)) k_ ∧ some k_ ≠ (v547 : Value).ownBlock) rfl rfl ?aO ?aR (fun _ hk => hk) ?aF ?aB ?aS ?aL ?_; (case aR => exact (by skip; exact Kd.N_F (Kd.N_mono (ok' := (fun k_ => ((fun k_ => some k_ ≠ (.slice Ao73 t536.length co73 : Value).ownBlock ∧ some k_ ≠ (.slice Ao77 t541.length co77 : Value).ownBlock ∧ k_ ≠ gb532)) k_ ∧ some k_ ≠ (v547 : Value).ownBlock)) (HO551.out) (fun k_ hk => ⟨⟨hk.1, ⟨hk.2.1, hk.2.2.2⟩⟩, hk.2.2.1⟩)))); (case aB => exact b_now); (case aF => exact (fun k_ hk => ⟨Kd.fresh' (Kd.N_lt (by (with_reducible repeat (first | apply Kd.N_alloc | apply Kd.N_drewN | apply Kd.N_drew)); exact HO538.out)) k_ hk, Kd.fresh' (Kd.N_lt (by (with_reducible repeat (first | apply Kd.N_alloc | apply Kd.N_drewN | apply Kd.N_drew)); exact HO543.out)) k_ hk, Kd.freshB (g := gb532) (o := .cells #[.slice A2_0 l2_0.length c2_0, .int .u32 a2_1] 40 (0, 0)) bk_now k_ hk⟩)); (case aO => exact (by (with_reducible repeat (first | apply Kd.N_alloc | apply Kd.N_drewN | apply Kd.N_drew)); exact Kd.N_mono HO548.out (fun _ hk => ⟨hk.1.1, ⟨hk.1.2.1, hk.1.2.2⟩⟩))); (case aS => exact (below_size b_now)); (case aL => have := LMc18.out; omega); intro v553 w81 ho hb hg hat; rw [← Ny552.out] at ho; have n0_ := Aside0.mk (blk_grown (g := gb532) (o := .cells #[.slice A2_0 l2_0.length c2_0, .int .u32 a2_1] 40 (0, 0)) bk_now hg (Kd.N_ne HO548.out BK532.out (by decide))); have n1_ := Aside0.mk (Kd.N_afterv (ok := (fun k_ => some k_ ≠ (.slice Ao77 t541.length co77 : Value).ownBlock ∧ some k_ ≠ (.slice Ao82 t549.length co82 : Value).ownBlock ∧ k_ ≠ gb532)) (by (with_reducible repeat (first | apply Kd.N_alloc | apply Kd.N_drewN | apply Kd.N_drew)); exact Kd.N_mono HO538.out (fun _ hk => ⟨⟨hk.1.1.2, ⟨hk.2, hk.1.1.1⟩⟩, hk.1.2⟩)) hg hat); have n2_ := Aside0.mk (Kd.N_afterv (ok := (fun k_ => some k_ ≠ (.slice Ao73 t536.length co73 : Value).ownBlock ∧ some k_ ≠ (.slice Ao82 t549.length co82 : Value).ownBlock ∧ k_ ≠ gb532)) (by (with_reducible repeat (first | apply Kd.N_alloc | apply Kd.N_drewN | apply Kd.N_drew)); exact Kd.N_mono HO543.out (fun _ hk => ⟨⟨hk.1.1.1, ⟨hk.2, hk.1.1.2⟩⟩, hk.1.2⟩)) hg hat); have n3_ := Aside0.mk (Kd.N_afterv (ok := (fun k_ => some k_ ≠ (.slice Ao73 t536.length co73 : Value).ownBlock ∧ some k_ ≠ (.slice Ao77 t541.length co77 : Value).ownBlock ∧ k_ ≠ gb532)) (by (with_reducible repeat (first | apply Kd.N_alloc | apply Kd.N_drewN | apply Kd.N_drew)); exact Kd.N_mono HO551.out (fun _ hk => ⟨⟨hk.1, ⟨hk.2.1, hk.2.2.2⟩⟩, hk.2.2.1⟩)) hg hat); have n4_ := Aside0.mk (hb); have n5_ := Aside0.mk (ho); clear BK532; clear HO538; clear HO543; clear HO551; clear HB; clear HO548; have BK532 := n0_; have HO538 := n1_; have HO543 := n2_; have HO551 := n3_; have HB := n4_; have HO554 := n5_; clear n0_ n1_ n2_ n3_ n4_ n5_; clear ho hb hg hat; have hcz83 := blk_all2 BK532.out; obtain ⟨Ao84, co84, eo84⟩ := Kd.N_slice HO554.out; subst eo84) | ((with_reducible refine gate_callee (f := 18) rfl ?_); refine sh_call (some 52) Tryd.func18 #[.slice Ao84 y552.length co84, .slice A2_0 l2_0.length c2_0, .int .u32 a2_1] ?_; (with_reducible refine (rule_Judge.calls kj3 _ _ y552 _ _ l2_0 a2_1 t555 t556 _ ?side1 ?side2 ?side3 ?side4 A19.out).mono ?_); (case side1 => repeat (first | exact (Kd.N_reads' HO554.out).2.2 | (with_reducible refine Kd.C_alloc ?_ _) | (with_reducible refine Kd.C_drewN ?_ _) | (with_reducible refine Kd.C_drew ?_))); (case side2 => exact (Kd.N_reads' HO554.out).2.1); (case side3 => repeat (first | exact (Kd.C_below HR2_0.out HB.out) | (with_reducible refine Kd.C_alloc ?_ _) | (with_reducible refine Kd.C_drewN ?_ _) | (with_reducible refine Kd.C_drew ?_))); (case side4 => exact HC2_0.out); rintro e w85 ⟨rfl, hb⟩; refine ⟨_, rfl, ?_⟩; replace HO538 := Aside0.mk (Kd.N_below (by (with_reducible repeat (first | apply Kd.N_alloc | apply Kd.N_drewN | apply Kd.N_drew)); exact HO538.out) hb); replace HO543 := Aside0.mk (Kd.N_below (by (with_reducible repeat (first | apply Kd.N_alloc | apply Kd.N_drewN | apply Kd.N_drew)); exact HO543.out) hb); replace HO551 := Aside0.mk (Kd.N_below (by (with_reducible repeat (first | apply Kd.N_alloc | apply Kd.N_drewN | apply Kd.N_drew)); exact HO551.out) hb); replace HO554 := Aside0.mk (Kd.N_below (by (with_reducible repeat (first | apply Kd.N_alloc | apply Kd.N_drewN | apply Kd.N_drew)); exact HO554.out) hb); replace BK532 := sh_k BK532 hb; replace HB := sh_b (w := w) hb; (try clear hb); (try clear hb2); (try clear hk); (try clear hi)) | (go_at_call 11; (with_reducible refine (stockadelaw18_wakes.calls kj3  t560 _ ?side1 (by first | rfl | exact HRT.out) A70.out).mono ?_); (case side1 => repeat (first | exact (Kd.C_below HRG0.out HB.out) | (with_reducible refine Kd.C_alloc ?_ _) | (with_reducible refine Kd.C_drewN ?_ _) | (with_reducible refine Kd.C_drew ?_))); rintro e w86 ⟨rfl, hb⟩; replace HO538 := Aside0.mk (Kd.N_below (by (with_reducible repeat (first | apply Kd.N_alloc | apply Kd.N_drewN | apply Kd.N_drew)); exact HO538.out) hb); replace HO543 := Aside0.mk (Kd.N_below (by (with_reducible repeat (first | apply Kd.N_alloc | apply Kd.N_drewN | apply Kd.N_drew)); exact HO543.out) hb); replace HO551 := Aside0.mk (Kd.N_below (by (with_reducible repeat (first | apply Kd.N_alloc | apply Kd.N_drewN | apply Kd.N_drew)); exact HO551.out) hb); replace HO554 := Aside0.mk (Kd.N_below (by (with_reducible repeat (first | apply Kd.N_alloc | apply Kd.N_drewN | apply Kd.N_drew)); exact HO554.out) hb); replace BK532 := sh_k BK532 hb; replace HB := sh_b (w := w) hb; (try clear hb); (try clear hb2); (try clear hk); (try clear hi)))
             go_ret
             exact ⟨ret_now, b_now⟩
            ·rw [if_neg c69] at H
             have c69b0 : (t545 == (-1)) = false := beq_eq_false_iff_ne.mpr c69
             have c69b1 : (t545 != (-1)) = true := bne_iff_ne.mpr c69
             obtain rfl := Option.some.inj H
             exact absurd HRT.out (by simp)
           ·rw [if_neg c68] at H
            have c68b0 : (t540 == (-1)) = false := beq_eq_false_iff_ne.mpr c68
            have c68b1 : (t540 != (-1)) = true := bne_iff_ne.mpr c68
            obtain rfl := Option.some.inj H
            exact absurd HRT.out (by simp)
          ·rw [if_neg c67] at H
           have c67b0 : (t556 == (-1)) = false := beq_eq_false_iff_ne.mpr c67
           have c67b1 : (t556 != (-1)) = true := bne_iff_ne.mpr c67
           obtain rfl := Option.some.inj H
           exact absurd HRT.out (by simp)
         ·rw [if_neg c66] at H
          have c66b0 : (t555 == 0) = false := beq_eq_false_iff_ne.mpr c66
          have c66b1 : (t555 != 0) = true := bne_iff_ne.mpr c66
          obtain rfl := Option.some.inj H
          exact absurd HRT.out (by simp)
        ·rw [if_neg c65] at H
         have c65b0 : (t544 == 0) = false := beq_eq_false_iff_ne.mpr c65
         have c65b1 : (t544 != 0) = true := bne_iff_ne.mpr c65
         obtain rfl := Option.some.inj H
         exact absurd HRT.out (by simp)
       ·rw [if_neg c64] at H
        have c64b0 : (t539 == 0) = false := beq_eq_false_iff_ne.mpr c64
        have c64b1 : (t539 != 0) = true := bne_iff_ne.mpr c64
        obtain rfl := Option.some.inj H
        exact absurd HRT.out (by simp)
    ·rw [if_neg c18] at H
     exact absurd H (by simp)

end Go.Proofs.YtighficpbplkhaaDoor.P
