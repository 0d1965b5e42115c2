/- Made by this session's driver over the kit's printer: for each Go function a Lean function with the same answers, and a proof that the Go call comes to these answers; no conditions but the ones each theorem names. -/
import Derived.Test.YtighficpbplkhaaDoorPx0
import Derived.Test.YtighficpbplkhaaDoorPx3
import Derived.Test.YtighficpbplkhaaDoorPxXXOf
import Derived.Test.YtighficpbplkhaaDoorPxXXAs
namespace Go.Proofs.YtighficpbplkhaaDoor.P
open Go.RowKit Go.Proofs.YtighficpbplkhaaDoorW.PrintWords Go.Proofs.YtighficpbplkhaaDoorW.PrintLast Go.Proofs.YtighficpbplkhaaDoorW.PrintMore
attribute [local go_sem] max2_int min2_int max_two min_two max_three min_three max_four min_four   -- for this text's walks alone
set_option linter.unusedVariables false
set_option linter.unusedSimpArgs false

/-! ### rule_Holds: function 20 -/
def rule_Holds.f (k : Nat) (a0_0 : Bool) (a0_1 : Int) (a0_2 : Int) (a0_3 : Int) (a0_4 : Int) (a0_5 : Int) (a0_6 : Int) (l1 : List Int) (a2 : Int) : Option (Bool) := (rule_may.f k a0_0 a0_1 a0_2 a0_3 a0_4 a0_5 a0_6).bind fun t173 => (if t173 = true then ((rule_of.f a0_1).bind fun t174 => ((rule_of_lit1.f k a0_0 a0_1 a0_2 a0_3 a0_4 a0_5 a0_6 l1 a2).bind fun bt175 => (if bt175.2 = true then (if a0_5 ≤ bt175.1 then (some ((decide (bt175.1 ≤ a0_6)) != a0_0)) else (some (false != a0_0))) else (some (false != a0_0))))) else (some false))
theorem rule_Holds.mono : ∀ a0 a1 a2 a3 a4 a5 a6 a7 a8 k, LeO (rule_Holds.f k a0 a1 a2 a3 a4 a5 a6 a7 a8) (rule_Holds.f (k + 1) a0 a1 a2 a3 a4 a5 a6 a7 a8) := by
 intro a0 a1 a2 a3 a4 a5 a6 a7 a8 k
 unfold rule_Holds.f
 repeat' first
   | (with_reducible exact rule_may.mono _ _ _ _ _ _ _ _)
   | (with_reducible exact rule_of_lit1.mono _ _ _ _ _ _ _ _ _ _)
   | (with_reducible exact LeO.refl _)
   | (with_reducible exact LeO.none _)
   | (with_reducible refine LeO.ite ?_ ?_)
   | (with_reducible refine LeO.bind ?_ (fun _ => ?_))
   | exact rule_may.mono _ _ _ _ _ _ _ _
   | exact rule_of_lit1.mono _ _ _ _ _ _ _ _ _ _
   | exact LeO.none _
   | refine LeO.ite ?_ ?_
   | refine LeO.bind ?_ (fun _ => ?_)
def rule_Holds.T3 : Bool × List (List Nat × List Nat) := (true, [([], []), ([0], [0]), ([1], [1]), ([2], [2]), ([], []), ([], []), ([], []), ([3, 4, 5, 6, 2], [3, 4, 5, 6]), ([7], [7]), ([8], [8]), ([8], [8]), ([9, 7, 0, 1, 2, 3, 4, 5, 6, 7, 8, 9], [9]), ([10, 11, 0, 1, 2, 3, 4, 5, 6, 7, 8, 9, 10, 11], [10])])
def rule_Holds.B3 : List Nat := [0, 1, 3, 7, 0, 0, 0, 127, 255, 511, 511, 1023, 4095]
theorem rule_Holds.tab3 : rtab .any (opsOf Tryd.f20 3) = rule_Holds.T3 := by kernel_rfl
theorem rule_Holds.bits3 : waitsOk rule_Holds.T3.2 rule_Holds.B3 = true := by kernel_rfl
set_option maxHeartbeats 8000000 in
set_option maxRecDepth 100000 in
theorem rule_Holds.calls (k : Nat) (a0_0 : Bool) (a0_1 : Int) (a0_2 : Int) (a0_3 : Int) (a0_4 : Int) (a0_5 : Int) (a0_6 : Int) (A1 : Option Addr) (c1 : Nat) (l1 : List Int) (a2 : Int) (r : Bool) (w : World) (hr1 : Kd.C (Kd.int .u8) w A1 l1.length l1) (hc1 : l1.length ≤ c1) (h : rule_Holds.f k a0_0 a0_1 a0_2 a0_3 a0_4 a0_5 a0_6 l1 a2 = some r) :
  Calls Tryd.prog 20 #[.agg #[.bool a0_0, .int .i64 a0_1, .int .i64 a0_2, .int .i64 a0_3, .int .u64 a0_4, .int .u64 a0_5, .int .u64 a0_6], .slice A1 l1.length c1, .int .u32 a2] w fun e w' => e = .returned (.bool r) ∧ Below w.heap.size w w' := by
 have hu50 := Tryd.underlying50
 have fd88_0 : ∀ (W_ : World) (v0 v1 : Value), (Instr.field 88 (.agg #[v0, v1]) 0).run Tryd.prog W_ = .ok v0 W_ := by intros; kernel_rfl
 have fd88_1 : ∀ (W_ : World) (v0 v1 : Value), (Instr.field 88 (.agg #[v0, v1]) 1).run Tryd.prog W_ = .ok v1 W_ := by intros; kernel_rfl
 have HR1 := Aside0.mk hr1
 have HC1 := Aside0.mk hc1
 clear hr1 hc1
 have HB := Aside0.mk (Below.refl w.heap.size w)
 have H : ((rule_may.f k a0_0 a0_1 a0_2 a0_3 a0_4 a0_5 a0_6).bind fun t173 => (if t173 = true then ((rule_of.f a0_1).bind fun t174 => ((rule_of_lit1.f k a0_0 a0_1 a0_2 a0_3 a0_4 a0_5 a0_6 l1 a2).bind fun bt175 => (if bt175.2 = true then (if a0_5 ≤ bt175.1 then (some ((decide (bt175.1 ≤ a0_6)) != a0_0)) else (some (false != a0_0))) else (some (false != a0_0))))) else (some false))) = some r := h
 clear h
 replace H := Option.bind_eq_some_iff.mp H; obtain ⟨t173, A40, H⟩ := H; try dsimp only at H
 have A4 := Aside0.mk A40
 clear A40
 by_cases c5 : t173 = true
 ·subst c5
  replace H := sh_t H
  replace H := Option.bind_eq_some_iff.mp H; obtain ⟨t174, A60, H⟩ := H; try dsimp only at H
  have A6 := Aside0.mk A60
  clear A60
  replace H := Option.bind_eq_some_iff.mp H; obtain ⟨⟨t175, t176⟩, A70, H⟩ := H; try dsimp only at H
  have A7 := Aside0.mk A70
  clear A70
  by_cases c8 : t176 = true
  ·subst c8
   replace H := sh_t H
   by_cases c9 : a0_5 ≤ t175
   ·rw [if_pos c9] at H
    have c9b0 : decide (a0_5 ≤ t175) = true := decide_eq_true c9
    clear c9
    obtain rfl := Option.some.inj H
    go_enter Tryd.func20, Tryd.ntmps20
    try go_wp2_with (first | ((with_reducible refine gate_dst (N := 3) rfl ?_); refine sh_box 3 #[.bool a0_0, .int .i64 a0_1, .int .i64 a0_2, .int .i64 a0_3, .int .u64 a0_4, .int .u64 a0_5, .int .u64 a0_6] 50 ?_; intro gb172 hg w10 hbox hb; have GE172 := sh_z (w := w) hg; replace HB := sh_b (w := w) hb; have BK172 := Aside0.mk (hbox); clear hb hbox hg; have hcz11 := blk_all7 BK172.out) | ((with_reducible refine gate_callee (f := 28) rfl ?_); refine sh_call (some 10) Tryd.func28 #[.agg #[.bool a0_0, .int .i64 a0_1, .int .i64 a0_2, .int .i64 a0_3, .int .u64 a0_4, .int .u64 a0_5, .int .u64 a0_6]] ?_; (with_reducible refine (rule_may.calls k a0_0 a0_1 a0_2 a0_3 a0_4 a0_5 a0_6 true _ A4.out).mono ?_); rintro e w12 ⟨rfl, hb⟩; refine ⟨_, rfl, ?_⟩; replace BK172 := sh_k BK172 hb; replace HB := sh_b (w := w) hb; (try clear hb); (try clear hb2); (try clear hk); (try clear hi)))
    have n0_ := Aside0.mk (blk_drew BK172.out)
    have n1_ := Aside0.mk (below_drew1 HB.out)
    clear BK172
    clear HB
    have BK172 := n0_
    have HB := n1_
    clear n0_ n1_
    refine start_ (n := 13) (S := fun w' => w'.cell? ⟨gb172, 0, none⟩ = some (.bool a0_0) ∧ w'.cell? ⟨gb172, 1, none⟩ = some (.int .i64 a0_1) ∧ w'.cell? ⟨gb172, 2, none⟩ = some (.int .i64 a0_2) ∧ w'.cell? ⟨gb172, 3, none⟩ = some (.int .i64 a0_3) ∧ w'.cell? ⟨gb172, 4, none⟩ = some (.int .u64 a0_4) ∧ w'.cell? ⟨gb172, 5, none⟩ = some (.int .u64 a0_5) ∧ w'.cell? ⟨gb172, 6, none⟩ = some (.int .u64 a0_6)) (ds := []) (fl 0 13) (by kernel_rfl) rfl rfl ⟨(blk_cell BK172.out 0).trans rfl, (blk_cell BK172.out 1).trans rfl, (blk_cell BK172.out 2).trans rfl, (blk_cell BK172.out 3).trans rfl, (blk_cell BK172.out 4).trans rfl, (blk_cell BK172.out 5).trans rfl, (blk_cell BK172.out 6).trans rfl⟩ (fun hHeld => ?_); refine with_tabW rule_Holds.tab3 rule_Holds.bits3 (fun HT_ HW_ => ?_)
    generalize w12.drew = w13 at BK172 HB hHeld ⊢
    refine pure_ (i := 0) (N := some 13) (v := ?_) (a' := ?_) (fl 1 12) rfl rfl (any_of HT_.out (by kernel_rfl)) (fun _ _ _ h => h) (Or.inl ⟨by rfl, ?_⟩) ?_ ?_
    rotate_left; exact ga_; rotate_left; exact gb_
    refine pure_ (i := 5) (N := some 18) (v := ?_) (a' := ?_) (fm 13 33) rfl rfl (any_of HT_.out (by kernel_rfl)) (fun _ _ _ h => h) (Or.inl ⟨by rfl, ?_⟩) ?_ ?_
    rotate_left; exact ga_; rotate_left; exact gb_
    refine pure_ (i := 6) (N := some 19) (v := ?_) (a' := ?_) (fm 13 97) rfl rfl (any_of HT_.out (by kernel_rfl)) (fun _ _ _ h => h) (Or.inl ⟨by rfl, ?_⟩) ?_ ?_
    rotate_left; exact ga_; rotate_left; exact gb_
    refine take_ (i := 1) (N := some 14) (v := ?_) (a' := ?_) (fm 13 99) rfl rfl (take_ofW HT_.out HW_.out (by kernel_rfl)) (fun _ _ _ h => h) (Or.inl ⟨by rfl, ?_⟩) hHeld ?_ ?_
    rotate_left; exact ga7_; rotate_left; exact gb_
    refine take_ (i := 4) (N := some 17) (v := ?_) (a' := ?_) (fm 13 115) rfl rfl (take_ofW HT_.out HW_.out (by kernel_rfl)) (fun _ _ _ h => h) (Or.inl ⟨by rfl, ?_⟩) hHeld ?_ ?_
    rotate_left; exact ga7_; rotate_left; exact gb_
    refine one_ (i := 2) (N := some 15) (fm 13 119) rfl rfl (one_of HT_.out (by kernel_rfl)) (by decide) (fun K hK => ?_)
    refine goes_ Tryd.func35 (by kernel_rfl) rfl #[.int .i64 a0_1] (by rfl) rfl rfl (by (try simp only [List.map_toArray, List.map_cons, List.map_nil]); first | done | rfl | (simp only [List.length_drop, List.length_take]; rfl)) ?_
    with_reducible refine (rule_of.calls a0_1 t174 _ A6.out).mono ?_
    rintro e w14 ⟨rfl, hb⟩
    refine ⟨_, rfl, ?_⟩
    have n0_ := Aside0.mk (blk_below (g := gb172) (o := .cells #[.bool a0_0, .int .i64 a0_1, .int .i64 a0_2, .int .i64 a0_3, .int .u64 a0_4, .int .u64 a0_5, .int .u64 a0_6] 50 (0, 0)) bk_now hb)
    have n1_ := Aside0.mk (below_step b_now hb)
    clear BK172
    clear HB
    have BK172 := n0_
    have HB := n1_
    clear n0_ n1_
    (try clear hb)
    (try clear hb2)
    (try clear hk)
    (try clear hi)
    refine hK.out _ _ ⟨(blk_cell BK172.out 0).trans rfl, (blk_cell BK172.out 1).trans rfl, (blk_cell BK172.out 2).trans rfl, (blk_cell BK172.out 3).trans rfl, (blk_cell BK172.out 4).trans rfl, (blk_cell BK172.out 5).trans rfl, (blk_cell BK172.out 6).trans rfl⟩ (fun hHeld => ?_)
    clear hK K
    refine norm_ (a' := ?_) ?_ ?_
    rotate_left
    ·show Act.put _ (some 15) _ = _
     simp only [Act.put, List.setIfInBounds_toArray, List.set_cons_zero, List.set_cons_succ, i64_w, i32_w]
     rfl
    refine pure_ (i := 3) (N := some 16) (v := ?_) (a' := ?_) (fl 7 6) rfl rfl (any_of HT_.out (by kernel_rfl)) (fun _ _ _ h => h) (Or.inl ⟨by rfl, ?_⟩) ?_ ?_
    rotate_left; exact ga_; rotate_left; exact gb_
    refine one_ (i := 7) (N := some 20) (fl 8 5) rfl rfl (one_of HT_.out (by kernel_rfl)) (by decide) (fun K hK => ?_)
    refine goesD_ (askOf_enters a0_1) #[.agg #[.bool a0_0, .int .i64 a0_1, .int .i64 a0_2, .int .i64 a0_3, .int .u64 a0_4, .int .u64 a0_5, .int .u64 a0_6], .slice A1 l1.length c1, .int .u32 a2] (by rfl) rfl rfl rfl (by (try simp only [List.map_toArray, List.map_cons, List.map_nil]); first | done | rfl | (simp only [List.length_drop, List.length_take]; rfl)) ?_
    with_reducible refine (rule_of_lit1.calls k a0_0 a0_1 a0_2 a0_3 a0_4 a0_5 a0_6 _ _ l1 a2 t175 true _ ?side1 ?side2 A7.out).mono ?_
    (case side1 => repeat (first | exact (Kd.C_below HR1.out HB.out) | (with_reducible refine Kd.C_alloc ?_ _) | (with_reducible refine Kd.C_drewN ?_ _) | (with_reducible refine Kd.C_drew ?_)))
    (case side2 => exact HC1.out)
    rintro e w15 ⟨rfl, hb⟩
    refine ⟨_, rfl, ?_⟩
    have n0_ := Aside0.mk (blk_below (g := gb172) (o := .cells #[.bool a0_0, .int .i64 a0_1, .int .i64 a0_2, .int .i64 a0_3, .int .u64 a0_4, .int .u64 a0_5, .int .u64 a0_6] 50 (0, 0)) bk_now hb)
    have n1_ := Aside0.mk (below_step b_now hb)
    clear BK172
    clear HB
    have BK172 := n0_
    have HB := n1_
    clear n0_ n1_
    (try clear hb)
    (try clear hb2)
    (try clear hk)
    (try clear hi)
    refine hK.out _ _ ⟨(blk_cell BK172.out 0).trans rfl, (blk_cell BK172.out 1).trans rfl, (blk_cell BK172.out 2).trans rfl, (blk_cell BK172.out 3).trans rfl, (blk_cell BK172.out 4).trans rfl, (blk_cell BK172.out 5).trans rfl, (blk_cell BK172.out 6).trans rfl⟩ (fun hHeld => ?_)
    clear hK K
    refine norm_ (a' := ?_) ?_ ?_
    rotate_left
    ·show Act.put _ (some 20) _ = _
     simp only [Act.put, List.setIfInBounds_toArray, List.set_cons_zero, List.set_cons_succ, i64_w, i32_w]
     rfl
    refine pure_ (i := 8) (N := some 12) (v := ?_) (a' := ?_) (fl 9 4) rfl rfl (any_of HT_.out (by kernel_rfl)) (fun _ _ _ h => h) (Or.inl ⟨by rfl, ?_⟩) ?_ ?_
    rotate_left; exact ga_; rotate_left; exact gb_
    refine pure_ (i := 9) (N := some 21) (v := ?_) (a' := ?_) (fl 10 3) rfl rfl (any_of HT_.out (by kernel_rfl)) (fun _ _ _ h => h) (Or.inl ⟨by rfl, ?_⟩) ?_ ?_
    rotate_left; exact ga_; rotate_left; exact gb_
    refine pure_ (i := 10) (N := some 22) (v := ?_) (a' := ?_) (fl 11 2) rfl rfl (any_of HT_.out (by kernel_rfl)) (fun _ _ _ h => h) (Or.inl ⟨by rfl, ?_⟩) ?_ ?_
    rotate_left; exact ga_; rotate_left; exact gb_
    refine pure_ (i := 11) (N := some 7) (v := ?_) (a' := ?_) (fl 12 1) rfl rfl (any_of HT_.out (by kernel_rfl)) (fun _ _ _ h => h) (Or.inl ⟨by rfl, ?_⟩) ?_ ?_
    rotate_left; exact ga_; rotate_left; exact gb_
    refine pure_ (i := 12) (N := some 8) (v := ?_) (a' := ?_) (fl 13 0) rfl rfl (any_of HT_.out (by kernel_rfl)) (fun _ _ _ h => h) (Or.inl ⟨by rfl, ?_⟩) ?_ ?_
    rotate_left; exact ga_; rotate_left; exact gb_
    refine done_ (done_of HT_.out (by kernel_rfl)) ?_
    have hcz16 := blk_all7 BK172.out
    try go_wp2
    go_ret
    exact ⟨ret_now, b_now⟩
   ·rw [if_neg c9] at H
    have c9b0 : decide (a0_5 ≤ t175) = false := decide_eq_false c9
    clear c9
    obtain rfl := Option.some.inj H
    go_enter Tryd.func20, Tryd.ntmps20
    try go_wp2_with (first | ((with_reducible refine gate_dst (N := 3) rfl ?_); refine sh_box 3 #[.bool a0_0, .int .i64 a0_1, .int .i64 a0_2, .int .i64 a0_3, .int .u64 a0_4, .int .u64 a0_5, .int .u64 a0_6] 50 ?_; intro gb172 hg w17 hbox hb; have GE172 := sh_z (w := w) hg; replace HB := sh_b (w := w) hb; have BK172 := Aside0.mk (hbox); clear hb hbox hg; have hcz18 := blk_all7 BK172.out) | ((with_reducible refine gate_callee (f := 28) rfl ?_); refine sh_call (some 10) Tryd.func28 #[.agg #[.bool a0_0, .int .i64 a0_1, .int .i64 a0_2, .int .i64 a0_3, .int .u64 a0_4, .int .u64 a0_5, .int .u64 a0_6]] ?_; (with_reducible refine (rule_may.calls k a0_0 a0_1 a0_2 a0_3 a0_4 a0_5 a0_6 true _ A4.out).mono ?_); rintro e w19 ⟨rfl, hb⟩; refine ⟨_, rfl, ?_⟩; replace BK172 := sh_k BK172 hb; replace HB := sh_b (w := w) hb; (try clear hb); (try clear hb2); (try clear hk); (try clear hi)))
    have n0_ := Aside0.mk (blk_drew BK172.out)
    have n1_ := Aside0.mk (below_drew1 HB.out)
    clear BK172
    clear HB
    have BK172 := n0_
    have HB := n1_
    clear n0_ n1_
    refine start_ (n := 13) (S := fun w' => w'.cell? ⟨gb172, 0, none⟩ = some (.bool a0_0) ∧ w'.cell? ⟨gb172, 1, none⟩ = some (.int .i64 a0_1) ∧ w'.cell? ⟨gb172, 2, none⟩ = some (.int .i64 a0_2) ∧ w'.cell? ⟨gb172, 3, none⟩ = some (.int .i64 a0_3) ∧ w'.cell? ⟨gb172, 4, none⟩ = some (.int .u64 a0_4) ∧ w'.cell? ⟨gb172, 5, none⟩ = some (.int .u64 a0_5) ∧ w'.cell? ⟨gb172, 6, none⟩ = some (.int .u64 a0_6)) (ds := []) (fl 0 13) (by kernel_rfl) rfl rfl ⟨(blk_cell BK172.out 0).trans rfl, (blk_cell BK172.out 1).trans rfl, (blk_cell BK172.out 2).trans rfl, (blk_cell BK172.out 3).trans rfl, (blk_cell BK172.out 4).trans rfl, (blk_cell BK172.out 5).trans rfl, (blk_cell BK172.out 6).trans rfl⟩ (fun hHeld => ?_); refine with_tabW rule_Holds.tab3 rule_Holds.bits3 (fun HT_ HW_ => ?_)
    generalize w19.drew = w20 at BK172 HB hHeld ⊢
    refine pure_ (i := 0) (N := some 13) (v := ?_) (a' := ?_) (fl 1 12) rfl rfl (any_of HT_.out (by kernel_rfl)) (fun _ _ _ h => h) (Or.inl ⟨by rfl, ?_⟩) ?_ ?_
    rotate_left; exact ga_; rotate_left; exact gb_
    refine pure_ (i := 5) (N := some 18) (v := ?_) (a' := ?_) (fm 13 33) rfl rfl (any_of HT_.out (by kernel_rfl)) (fun _ _ _ h => h) (Or.inl ⟨by rfl, ?_⟩) ?_ ?_
    rotate_left; exact ga_; rotate_left; exact gb_
    refine pure_ (i := 6) (N := some 19) (v := ?_) (a' := ?_) (fm 13 97) rfl rfl (any_of HT_.out (by kernel_rfl)) (fun _ _ _ h => h) (Or.inl ⟨by rfl, ?_⟩) ?_ ?_
    rotate_left; exact ga_; rotate_left; exact gb_
    refine take_ (i := 1) (N := some 14) (v := ?_) (a' := ?_) (fm 13 99) rfl rfl (take_ofW HT_.out HW_.out (by kernel_rfl)) (fun _ _ _ h => h) (Or.inl ⟨by rfl, ?_⟩) hHeld ?_ ?_
    rotate_left; exact ga7_; rotate_left; exact gb_
    refine take_ (i := 4) (N := some 17) (v := ?_) (a' := ?_) (fm 13 115) rfl rfl (take_ofW HT_.out HW_.out (by kernel_rfl)) (fun _ _ _ h => h) (Or.inl ⟨by rfl, ?_⟩) hHeld ?_ ?_
    rotate_left; exact ga7_; rotate_left; exact gb_
    refine one_ (i := 2) (N := some 15) (fm 13 119) rfl rfl (one_of HT_.out (by kernel_rfl)) (by decide) (fun K hK => ?_)
    refine goes_ Tryd.func35 (by kernel_rfl) rfl #[.int .i64 a0_1] (by rfl) rfl rfl (by (try simp only [List.map_toArray, List.map_cons, List.map_nil]); first | done | rfl | (simp only [List.length_drop, List.length_take]; rfl)) ?_
    with_reducible refine (rule_of.calls a0_1 t174 _ A6.out).mono ?_
    rintro e w21 ⟨rfl, hb⟩
    refine ⟨_, rfl, ?_⟩
    have n0_ := Aside0.mk (blk_below (g := gb172) (o := .cells #[.bool a0_0, .int .i64 a0_1, .int .i64 a0_2, .int .i64 a0_3, .int .u64 a0_4, .int .u64 a0_5, .int .u64 a0_6] 50 (0, 0)) bk_now hb)
    have n1_ := Aside0.mk (below_step b_now hb)
    clear BK172
    clear HB
    have BK172 := n0_
    have HB := n1_
    clear n0_ n1_
    (try clear hb)
    (try clear hb2)
    (try clear hk)
    (try clear hi)
    refine hK.out _ _ ⟨(blk_cell BK172.out 0).trans rfl, (blk_cell BK172.out 1).trans rfl, (blk_cell BK172.out 2).trans rfl, (blk_cell BK172.out 3).trans rfl, (blk_cell BK172.out 4).trans rfl, (blk_cell BK172.out 5).trans rfl, (blk_cell BK172.out 6).trans rfl⟩ (fun hHeld => ?_)
    clear hK K
    refine norm_ (a' := ?_) ?_ ?_
    rotate_left
    ·show Act.put _ (some 15) _ = _
     simp only [Act.put, List.setIfInBounds_toArray, List.set_cons_zero, List.set_cons_succ, i64_w, i32_w]
     rfl
    refine pure_ (i := 3) (N := some 16) (v := ?_) (a' := ?_) (fl 7 6) rfl rfl (any_of HT_.out (by kernel_rfl)) (fun _ _ _ h => h) (Or.inl ⟨by rfl, ?_⟩) ?_ ?_
    rotate_left; exact ga_; rotate_left; exact gb_
    refine one_ (i := 7) (N := some 20) (fl 8 5) rfl rfl (one_of HT_.out (by kernel_rfl)) (by decide) (fun K hK => ?_)
    refine goesD_ (askOf_enters a0_1) #[.agg #[.bool a0_0, .int .i64 a0_1, .int .i64 a0_2, .int .i64 a0_3, .int .u64 a0_4, .int .u64 a0_5, .int .u64 a0_6], .slice A1 l1.length c1, .int .u32 a2] (by rfl) rfl rfl rfl (by (try simp only [List.map_toArray, List.map_cons, List.map_nil]); first | done | rfl | (simp only [List.length_drop, List.length_take]; rfl)) ?_
    with_reducible refine (rule_of_lit1.calls k a0_0 a0_1 a0_2 a0_3 a0_4 a0_5 a0_6 _ _ l1 a2 t175 true _ ?side1 ?side2 A7.out).mono ?_
    (case side1 => repeat (first | exact (Kd.C_below HR1.out HB.out) | (with_reducible refine Kd.C_alloc ?_ _) | (with_reducible refine Kd.C_drewN ?_ _) | (with_reducible refine Kd.C_drew ?_)))
    (case side2 => exact HC1.out)
    rintro e w22 ⟨rfl, hb⟩
    refine ⟨_, rfl, ?_⟩
    have n0_ := Aside0.mk (blk_below (g := gb172) (o := .cells #[.bool a0_0, .int .i64 a0_1, .int .i64 a0_2, .int .i64 a0_3, .int .u64 a0_4, .int .u64 a0_5, .int .u64 a0_6] 50 (0, 0)) bk_now hb)
    have n1_ := Aside0.mk (below_step b_now hb)
    clear BK172
    clear HB
    have BK172 := n0_
    have HB := n1_
    clear n0_ n1_
    (try clear hb)
    (try clear hb2)
    (try clear hk)
    (try clear hi)
    refine hK.out _ _ ⟨(blk_cell BK172.out 0).trans rfl, (blk_cell BK172.out 1).trans rfl, (blk_cell BK172.out 2).trans rfl, (blk_cell BK172.out 3).trans rfl, (blk_cell BK172.out 4).trans rfl, (blk_cell BK172.out 5).trans rfl, (blk_cell BK172.out 6).trans rfl⟩ (fun hHeld => ?_)
    clear hK K
    refine norm_ (a' := ?_) ?_ ?_
    rotate_left
    ·show Act.put _ (some 20) _ = _
     simp only [Act.put, List.setIfInBounds_toArray, List.set_cons_zero, List.set_cons_succ, i64_w, i32_w]
     rfl
    refine pure_ (i := 8) (N := some 12) (v := ?_) (a' := ?_) (fl 9 4) rfl rfl (any_of HT_.out (by kernel_rfl)) (fun _ _ _ h => h) (Or.inl ⟨by rfl, ?_⟩) ?_ ?_
    rotate_left; exact ga_; rotate_left; exact gb_
    refine pure_ (i := 9) (N := some 21) (v := ?_) (a' := ?_) (fl 10 3) rfl rfl (any_of HT_.out (by kernel_rfl)) (fun _ _ _ h => h) (Or.inl ⟨by rfl, ?_⟩) ?_ ?_
    rotate_left; exact ga_; rotate_left; exact gb_
    refine pure_ (i := 10) (N := some 22) (v := ?_) (a' := ?_) (fl 11 2) rfl rfl (any_of HT_.out (by kernel_rfl)) (fun _ _ _ h => h) (Or.inl ⟨by rfl, ?_⟩) ?_ ?_
    rotate_left; exact ga_; rotate_left; exact gb_
    refine pure_ (i := 11) (N := some 7) (v := ?_) (a' := ?_) (fl 12 1) rfl rfl (any_of HT_.out (by kernel_rfl)) (fun _ _ _ h => h) (Or.inl ⟨by rfl, ?_⟩) ?_ ?_
    rotate_left; exact ga_; rotate_left; exact gb_
    refine pure_ (i := 12) (N := some 8) (v := ?_) (a' := ?_) (fl 13 0) rfl rfl (any_of HT_.out (by kernel_rfl)) (fun _ _ _ h => h) (Or.inl ⟨by rfl, ?_⟩) ?_ ?_
    rotate_left; exact ga_; rotate_left; exact gb_
    refine done_ (done_of HT_.out (by kernel_rfl)) ?_
    have hcz23 := blk_all7 BK172.out
    try go_wp2
    go_ret
    exact ⟨ret_now, b_now⟩
  ·replace c8 := Bool.eq_false_iff.mpr c8
   subst c8
   replace H := sh_f H
   obtain rfl := Option.some.inj H
   go_enter Tryd.func20, Tryd.ntmps20
   try go_wp2_with (first | ((with_reducible refine gate_dst (N := 3) rfl ?_); refine sh_box 3 #[.bool a0_0, .int .i64 a0_1, .int .i64 a0_2, .int .i64 a0_3, .int .u64 a0_4, .int .u64 a0_5, .int .u64 a0_6] 50 ?_; intro gb172 hg w24 hbox hb; have GE172 := sh_z (w := w) hg; replace HB := sh_b (w := w) hb; have BK172 := Aside0.mk (hbox); clear hb hbox hg; have hcz25 := blk_all7 BK172.out) | ((with_reducible refine gate_callee (f := 28) rfl ?_); refine sh_call (some 10) Tryd.func28 #[.agg #[.bool a0_0, .int .i64 a0_1, .int .i64 a0_2, .int .i64 a0_3, .int .u64 a0_4, .int .u64 a0_5, .int .u64 a0_6]] ?_; (with_reducible refine (rule_may.calls k a0_0 a0_1 a0_2 a0_3 a0_4 a0_5 a0_6 true _ A4.out).mono ?_); rintro e w26 ⟨rfl, hb⟩; refine ⟨_, rfl, ?_⟩; replace BK172 := sh_k BK172 hb; replace HB := sh_b (w := w) hb; (try clear hb); (try clear hb2); (try clear hk); (try clear hi)))
   have n0_ := Aside0.mk (blk_drew BK172.out)
   have n1_ := Aside0.mk (below_drew1 HB.out)
   clear BK172
   clear HB
   have BK172 := n0_
   have HB := n1_
   clear n0_ n1_
   refine start_ (n := 13) (S := fun w' => w'.cell? ⟨gb172, 0, none⟩ = some (.bool a0_0) ∧ w'.cell? ⟨gb172, 1, none⟩ = some (.int .i64 a0_1) ∧ w'.cell? ⟨gb172, 2, none⟩ = some (.int .i64 a0_2) ∧ w'.cell? ⟨gb172, 3, none⟩ = some (.int .i64 a0_3) ∧ w'.cell? ⟨gb172, 4, none⟩ = some (.int .u64 a0_4) ∧ w'.cell? ⟨gb172, 5, none⟩ = some (.int .u64 a0_5) ∧ w'.cell? ⟨gb172, 6, none⟩ = some (.int .u64 a0_6)) (ds := []) (fl 0 13) (by kernel_rfl) rfl rfl ⟨(blk_cell BK172.out 0).trans rfl, (blk_cell BK172.out 1).trans rfl, (blk_cell BK172.out 2).trans rfl, (blk_cell BK172.out 3).trans rfl, (blk_cell BK172.out 4).trans rfl, (blk_cell BK172.out 5).trans rfl, (blk_cell BK172.out 6).trans rfl⟩ (fun hHeld => ?_); refine with_tabW rule_Holds.tab3 rule_Holds.bits3 (fun HT_ HW_ => ?_)
   generalize w26.drew = w27 at BK172 HB hHeld ⊢
   refine pure_ (i := 0) (N := some 13) (v := ?_) (a' := ?_) (fl 1 12) rfl rfl (any_of HT_.out (by kernel_rfl)) (fun _ _ _ h => h) (Or.inl ⟨by rfl, ?_⟩) ?_ ?_
   rotate_left; exact ga_; rotate_left; exact gb_
   refine pure_ (i := 5) (N := some 18) (v := ?_) (a' := ?_) (fm 13 33) rfl rfl (any_of HT_.out (by kernel_rfl)) (fun _ _ _ h => h) (Or.inl ⟨by rfl, ?_⟩) ?_ ?_
   rotate_left; exact ga_; rotate_left; exact gb_
   refine pure_ (i := 6) (N := some 19) (v := ?_) (a' := ?_) (fm 13 97) rfl rfl (any_of HT_.out (by kernel_rfl)) (fun _ _ _ h => h) (Or.inl ⟨by rfl, ?_⟩) ?_ ?_
   rotate_left; exact ga_; rotate_left; exact gb_
   refine take_ (i := 1) (N := some 14) (v := ?_) (a' := ?_) (fm 13 99) rfl rfl (take_ofW HT_.out HW_.out (by kernel_rfl)) (fun _ _ _ h => h) (Or.inl ⟨by rfl, ?_⟩) hHeld ?_ ?_
   rotate_left; exact ga7_; rotate_left; exact gb_
   refine take_ (i := 4) (N := some 17) (v := ?_) (a' := ?_) (fm 13 115) rfl rfl (take_ofW HT_.out HW_.out (by kernel_rfl)) (fun _ _ _ h => h) (Or.inl ⟨by rfl, ?_⟩) hHeld ?_ ?_
   rotate_left; exact ga7_; rotate_left; exact gb_
   refine one_ (i := 2) (N := some 15) (fm 13 119) rfl rfl (one_of HT_.out (by kernel_rfl)) (by decide) (fun K hK => ?_)
   refine goes_ Tryd.func35 (by kernel_rfl) rfl #[.int .i64 a0_1] (by rfl) rfl rfl (by (try simp only [List.map_toArray, List.map_cons, List.map_nil]); first | done | rfl | (simp only [List.length_drop, List.length_take]; rfl)) ?_
   with_reducible refine (rule_of.calls a0_1 t174 _ A6.out).mono ?_
   rintro e w28 ⟨rfl, hb⟩
   refine ⟨_, rfl, ?_⟩
   have n0_ := Aside0.mk (blk_below (g := gb172) (o := .cells #[.bool a0_0, .int .i64 a0_1, .int .i64 a0_2, .int .i64 a0_3, .int .u64 a0_4, .int .u64 a0_5, .int .u64 a0_6] 50 (0, 0)) bk_now hb)
   have n1_ := Aside0.mk (below_step b_now hb)
   clear BK172
   clear HB
   have BK172 := n0_
   have HB := n1_
   clear n0_ n1_
   (try clear hb)
   (try clear hb2)
   (try clear hk)
   (try clear hi)
   refine hK.out _ _ ⟨(blk_cell BK172.out 0).trans rfl, (blk_cell BK172.out 1).trans rfl, (blk_cell BK172.out 2).trans rfl, (blk_cell BK172.out 3).trans rfl, (blk_cell BK172.out 4).trans rfl, (blk_cell BK172.out 5).trans rfl, (blk_cell BK172.out 6).trans rfl⟩ (fun hHeld => ?_)
   clear hK K
   refine norm_ (a' := ?_) ?_ ?_
   rotate_left
   ·show Act.put _ (some 15) _ = _
    simp only [Act.put, List.setIfInBounds_toArray, List.set_cons_zero, List.set_cons_succ, i64_w, i32_w]
    rfl
   refine pure_ (i := 3) (N := some 16) (v := ?_) (a' := ?_) (fl 7 6) rfl rfl (any_of HT_.out (by kernel_rfl)) (fun _ _ _ h => h) (Or.inl ⟨by rfl, ?_⟩) ?_ ?_
   rotate_left; exact ga_; rotate_left; exact gb_
   refine one_ (i := 7) (N := some 20) (fl 8 5) rfl rfl (one_of HT_.out (by kernel_rfl)) (by decide) (fun K hK => ?_)
   refine goesD_ (askOf_enters a0_1) #[.agg #[.bool a0_0, .int .i64 a0_1, .int .i64 a0_2, .int .i64 a0_3, .int .u64 a0_4, .int .u64 a0_5, .int .u64 a0_6], .slice A1 l1.length c1, .int .u32 a2] (by rfl) rfl rfl rfl (by (try simp only [List.map_toArray, List.map_cons, List.map_nil]); first | done | rfl | (simp only [List.length_drop, List.length_take]; rfl)) ?_
   with_reducible refine (rule_of_lit1.calls k a0_0 a0_1 a0_2 a0_3 a0_4 a0_5 a0_6 _ _ l1 a2 t175 false _ ?side1 ?side2 A7.out).mono ?_
   (case side1 => repeat (first | exact (Kd.C_below HR1.out HB.out) | (with_reducible refine Kd.C_alloc ?_ _) | (with_reducible refine Kd.C_drewN ?_ _) | (with_reducible refine Kd.C_drew ?_)))
   (case side2 => exact HC1.out)
   rintro e w29 ⟨rfl, hb⟩
   refine ⟨_, rfl, ?_⟩
   have n0_ := Aside0.mk (blk_below (g := gb172) (o := .cells #[.bool a0_0, .int .i64 a0_1, .int .i64 a0_2, .int .i64 a0_3, .int .u64 a0_4, .int .u64 a0_5, .int .u64 a0_6] 50 (0, 0)) bk_now hb)
   have n1_ := Aside0.mk (below_step b_now hb)
   clear BK172
   clear HB
   have BK172 := n0_
   have HB := n1_
   clear n0_ n1_
   (try clear hb)
   (try clear hb2)
   (try clear hk)
   (try clear hi)
   refine hK.out _ _ ⟨(blk_cell BK172.out 0).trans rfl, (blk_cell BK172.out 1).trans rfl, (blk_cell BK172.out 2).trans rfl, (blk_cell BK172.out 3).trans rfl, (blk_cell BK172.out 4).trans rfl, (blk_cell BK172.out 5).trans rfl, (blk_cell BK172.out 6).trans rfl⟩ (fun hHeld => ?_)
   clear hK K
   refine norm_ (a' := ?_) ?_ ?_
   rotate_left
   ·show Act.put _ (some 20) _ = _
    simp only [Act.put, List.setIfInBounds_toArray, List.set_cons_zero, List.set_cons_succ, i64_w, i32_w]
    rfl
   refine pure_ (i := 8) (N := some 12) (v := ?_) (a' := ?_) (fl 9 4) rfl rfl (any_of HT_.out (by kernel_rfl)) (fun _ _ _ h => h) (Or.inl ⟨by rfl, ?_⟩) ?_ ?_
   rotate_left; exact ga_; rotate_left; exact gb_
   refine pure_ (i := 9) (N := some 21) (v := ?_) (a' := ?_) (fl 10 3) rfl rfl (any_of HT_.out (by kernel_rfl)) (fun _ _ _ h => h) (Or.inl ⟨by rfl, ?_⟩) ?_ ?_
   rotate_left; exact ga_; rotate_left; exact gb_
   refine pure_ (i := 10) (N := some 22) (v := ?_) (a' := ?_) (fl 11 2) rfl rfl (any_of HT_.out (by kernel_rfl)) (fun _ _ _ h => h) (Or.inl ⟨by rfl, ?_⟩) ?_ ?_
   rotate_left; exact ga_; rotate_left; exact gb_
   refine pure_ (i := 11) (N := some 7) (v := ?_) (a' := ?_) (fl 12 1) rfl rfl (any_of HT_.out (by kernel_rfl)) (fun _ _ _ h => h) (Or.inl ⟨by rfl, ?_⟩) ?_ ?_
   rotate_left; exact ga_; rotate_left; exact gb_
   refine pure_ (i := 12) (N := some 8) (v := ?_) (a' := ?_) (fl 13 0) rfl rfl (any_of HT_.out (by kernel_rfl)) (fun _ _ _ h => h) (Or.inl ⟨by rfl, ?_⟩) ?_ ?_
   rotate_left; exact ga_; rotate_left; exact gb_
   refine done_ (done_of HT_.out (by kernel_rfl)) ?_
   have hcz30 := blk_all7 BK172.out
   try go_wp2
   go_ret
   exact ⟨ret_now, b_now⟩
 ·replace c5 := Bool.eq_false_iff.mpr c5
  subst c5
  replace H := sh_f H
  obtain rfl := Option.some.inj H
  go_enter Tryd.func20, Tryd.ntmps20
  go_wp2_with (first | ((with_reducible refine gate_dst (N := 3) rfl ?_); refine sh_box 3 #[.bool a0_0, .int .i64 a0_1, .int .i64 a0_2, .int .i64 a0_3, .int .u64 a0_4, .int .u64 a0_5, .int .u64 a0_6] 50 ?_; intro gb172 hg w31 hbox hb; have GE172 := sh_z (w := w) hg; replace HB := sh_b (w := w) hb; have BK172 := Aside0.mk (hbox); clear hb hbox hg; have hcz32 := blk_all7 BK172.out) | ((with_reducible refine gate_callee (f := 28) rfl ?_); refine sh_call (some 10) Tryd.func28 #[.agg #[.bool a0_0, .int .i64 a0_1, .int .i64 a0_2, .int .i64 a0_3, .int .u64 a0_4, .int .u64 a0_5, .int .u64 a0_6]] ?_; (with_reducible refine (rule_may.calls k a0_0 a0_1 a0_2 a0_3 a0_4 a0_5 a0_6 false _ A4.out).mono ?_); rintro e w33 ⟨rfl, hb⟩; refine ⟨_, rfl, ?_⟩; replace BK172 := sh_k BK172 hb; replace HB := sh_b (w := w) hb; (try clear hb); (try clear hb2); (try clear hk); (try clear hi)))
  go_ret
  exact ⟨ret_now, b_now⟩

/-! ### rule_Judge: function 18 -/
mutual
def rule_Judge.l0 : Nat → List Int → Int → List (S53) → Int → Int → Option (Int × Int)
 | 0, _, _, _, _, _ => none
 | k + 1, x1, x2, x12, x13, x14 => if x14 < x13 then (if 0 ≤ x14 then (if x14 < (x12.length : Int) then (rule_Judge.l1 k x1 x2 x14 x12 x13 x14 ((rd_T53 x12 x14).f0) (((rd_T53 x12 x14).f0).length : Int) 0 ((rd_T53 x12 x14).f0) ((rd_T53 x12 x14).f1)) else (none)) else (none)) else (some (0, (-1)))
def rule_Judge.l1 : Nat → List Int → Int → Int → List (S53) → Int → Int → List (S50) → Int → Int → List (S50) → Int → Option (Int × Int)
 | 0, _, _, _, _, _, _, _, _, _, _, _ => none
 | k + 1, x1, x2, x8, x12, x13, x14, x20, x21, x22, x179000, x179001 => if x22 < x21 then (if 0 ≤ x22 then (if x22 < (x20.length : Int) then ((rule_Holds.f k ((rd_T50 x20 x22).f0) ((rd_T50 x20 x22).f1) ((rd_T50 x20 x22).f2) ((rd_T50 x20 x22).f3) ((rd_T50 x20 x22).f4) ((rd_T50 x20 x22).f5) ((rd_T50 x20 x22).f6) x1 x2).bind fun t181 => (if t181 = true then (rule_Judge.l1 k x1 x2 x8 x12 x13 x14 x20 x21 (wrap64 (x22 + 1)) x179000 x179001) else (rule_Judge.l0 k x1 x2 x12 x13 (wrap64 (x14 + 1))))) else (none)) else (none)) else (some (x179001, x8))
end
def rule_Judge.f (k : Nat) (l0 : List (S53)) (l1 : List Int) (a2 : Int) : Option (Int × Int) := rule_Judge.l0 k l1 a2 l0 (l0.length : Int) 0
theorem rule_Judge.mono_l : ∀ k, (∀ y0 y1 y2 y3 y4, LeO (rule_Judge.l0 k y0 y1 y2 y3 y4) (rule_Judge.l0 (k + 1) y0 y1 y2 y3 y4)) ∧ (∀ y0 y1 y2 y3 y4 y5 y6 y7 y8 y9 y10, LeO (rule_Judge.l1 k y0 y1 y2 y3 y4 y5 y6 y7 y8 y9 y10) (rule_Judge.l1 (k + 1) y0 y1 y2 y3 y4 y5 y6 y7 y8 y9 y10))
 | 0 => ⟨fun _ _ _ _ _ r h => by simp [rule_Judge.l0] at h, fun _ _ _ _ _ _ _ _ _ _ _ r h => by simp [rule_Judge.l1] at h⟩
 | k + 1 => by
  obtain ⟨ih0, ih1⟩ := rule_Judge.mono_l k
  refine ⟨?_, ?_⟩
  ·intro y0 y1 y2 y3 y4
   unfold rule_Judge.l0
   repeat' first
   | (with_reducible exact ih0 _ _ _ _ _)
   | (with_reducible exact ih1 _ _ _ _ _ _ _ _ _ _ _)
   | (with_reducible exact rule_Holds.mono _ _ _ _ _ _ _ _ _ _)
   | (with_reducible exact LeO.refl _)
   | (with_reducible exact LeO.none _)
   | (with_reducible refine LeO.ite ?_ ?_)
   | (with_reducible refine LeO.bind ?_ (fun _ => ?_))
   | exact ih0 _ _ _ _ _
   | exact ih1 _ _ _ _ _ _ _ _ _ _ _
   | exact rule_Holds.mono _ _ _ _ _ _ _ _ _ _
   | exact LeO.none _
   | refine LeO.ite ?_ ?_
   | refine LeO.bind ?_ (fun _ => ?_)
  ·intro y0 y1 y2 y3 y4 y5 y6 y7 y8 y9 y10
   unfold rule_Judge.l1
   repeat' first
   | (with_reducible exact ih0 _ _ _ _ _)
   | (with_reducible exact ih1 _ _ _ _ _ _ _ _ _ _ _)
   | (with_reducible exact rule_Holds.mono _ _ _ _ _ _ _ _ _ _)
   | (with_reducible exact LeO.refl _)
   | (with_reducible exact LeO.none _)
   | (with_reducible refine LeO.ite ?_ ?_)
   | (with_reducible refine LeO.bind ?_ (fun _ => ?_))
   | exact ih0 _ _ _ _ _
   | exact ih1 _ _ _ _ _ _ _ _ _ _ _
   | exact rule_Holds.mono _ _ _ _ _ _ _ _ _ _
   | exact LeO.none _
   | refine LeO.ite ?_ ?_
   | refine LeO.bind ?_ (fun _ => ?_)
theorem rule_Judge.mono : ∀ a0 a1 a2 k, LeO (rule_Judge.f k a0 a1 a2) (rule_Judge.f (k + 1) a0 a1 a2) := by
 intro a0 a1 a2 k
 obtain ⟨ih0, ih1⟩ := rule_Judge.mono_l k
 unfold rule_Judge.f
 repeat' first
   | (with_reducible exact ih0 _ _ _ _ _)
   | (with_reducible exact ih1 _ _ _ _ _ _ _ _ _ _ _)
   | (with_reducible exact rule_Holds.mono _ _ _ _ _ _ _ _ _ _)
   | (with_reducible exact LeO.refl _)
   | (with_reducible exact LeO.none _)
   | (with_reducible refine LeO.ite ?_ ?_)
   | (with_reducible refine LeO.bind ?_ (fun _ => ?_))
   | exact ih0 _ _ _ _ _
   | exact ih1 _ _ _ _ _ _ _ _ _ _ _
   | exact rule_Holds.mono _ _ _ _ _ _ _ _ _ _
   | exact LeO.none _
   | refine LeO.ite ?_ ?_
   | refine LeO.bind ?_ (fun _ => ?_)
set_option maxHeartbeats 8000000 in
set_option maxRecDepth 100000 in
theorem rule_Judge.calls (k : Nat) (A0 : Option Addr) (c0 : Nat) (l0 : List (S53)) (A1 : Option Addr) (c1 : Nat) (l1 : List Int) (a2 : Int) (r1 : Int) (r2 : Int) (w : World) (hr0 : Kd.C k53 w A0 l0.length l0) (hc0 : l0.length ≤ c0) (hr1 : Kd.C (Kd.int .u8) w A1 l1.length l1) (hc1 : l1.length ≤ c1) (h : rule_Judge.f k l0 l1 a2 = some (r1, r2)) :
  Calls Tryd.prog 18 #[.slice A0 l0.length c0, .slice A1 l1.length c1, .int .u32 a2] w fun e w' => e = .returned (.tuple #[.int .u32 r1, .int .i64 r2]) ∧ Below w.heap.size w w' := by
 have hu53 := Tryd.underlying53
 have hu50 := Tryd.underlying50
 have HR0 := Aside0.mk hr0
 have HC0 := Aside0.mk hc0
 clear hr0 hc0
 have HR1 := Aside0.mk hr1
 have HC1 := Aside0.mk hc1
 clear hr1 hc1
 have HB := Aside0.mk (Below.refl w.heap.size w)
 have H : (rule_Judge.l0 k l1 a2 l0 (l0.length : Int) 0) = some (r1, r2) := h
 clear h
 have H' := Aside0.mk H
 clear H
 go_enter Tryd.func18, Tryd.ntmps18
 go_wp2
 go_step3
 go_wp2
 go_step3
 go_wp2
 go_loopg [14] k (fun kq v14 w' => ∃ (x14_1 : Int), v14 = .int .i64 x14_1 ∧ Aside0 (rule_Judge.l0 kq l1 a2 l0 (l0.length : Int) x14_1 = some (r1, r2)) ∧ Aside0 (kq ≤ k) ∧ Aside0 (Below w.heap.size w w'))
 case atStart => exact ⟨(0), eq_now, H', ⟨Nat.le_refl _⟩, ⟨b_now⟩⟩
 case round =>
  clear H'
  obtain ⟨x14_1, rfl, HA, HK1, HB⟩ := hrel
  cases gk with
  | zero => exact absurd HA.out (by simp [rule_Judge.l0])
  | succ k1 =>
   have H := HA.out
   clear HA
   simp only [rule_Judge.l0] at H
   by_cases c4 : x14_1 < (l0.length : Int)
   ·rw [if_pos c4] at H
    have c4b0 : decide (x14_1 < (l0.length : Int)) = true := decide_eq_true c4
    clear c4
    by_cases c5 : 0 ≤ x14_1
    ·rw [if_pos c5] at H
     have c5b0 : decide (0 ≤ x14_1) = true := decide_eq_true c5
     clear c5
     by_cases c6 : x14_1 < (l0.length : Int)
     ·rw [if_pos c6] at H
      have c6b0 : decide (x14_1 < (l0.length : Int)) = true := decide_eq_true c6
      clear c6
      have H' := Aside0.mk H
      clear H
      have p177 : 0 ≤ (x14_1 : Int) := of_decide_eq_true (by first | (with_reducible assumption) | assumption)
      have q177 : x14_1 < (l0.length : Int) := of_decide_eq_true (by first | (with_reducible assumption) | assumption)
      obtain ⟨ad177, A177_0, c177_0, e177, hx177_0, hx177_1, hl177_0, hi177_0⟩ := at_T53 HR0.out x14_1 p177 q177
      cases e177
      replace hx177_0 := (HB.out.cell (World.block_lt_of_cell? w _ hx177_0)).trans hx177_0
      replace hx177_1 := (HB.out.cell (World.block_lt_of_cell? w _ hx177_1)).trans hx177_1
      have HR177_0 := Aside0.mk hi177_0
      have HC177_0 := Aside0.mk hl177_0
      clear hi177_0 hl177_0
      replace p177 := eq_true p177
      replace q177 := eq_true q177
      go_wp2_with (first | ((with_reducible refine gate_dst (N := 9) rfl ?_); refine sh_box 9 #[.slice none 0 0, .int .u32 0] 53 ?_; intro gb178 hg w7 hbox hb; have GE178 := sh_z (w := w) hg; replace HB := sh_b (w := w) hb; have BK178 := Aside0.mk (hbox); clear hb hbox hg; have hcz8 := blk_all2 BK178.out))
      go_loopg [22] k1 (fun kq v22 w' => ∃ (x22_2 : Int), v22 = .int .i64 x22_2 ∧ Aside0 (rule_Judge.l1 kq l1 a2 x14_1 l0 (l0.length : Int) x14_1 ((rd_T53 l0 x14_1).f0) (((rd_T53 l0 x14_1).f0).length : Int) x22_2 ((rd_T53 l0 x14_1).f0) ((rd_T53 l0 x14_1).f1) = some (r1, r2)) ∧ Aside0 (kq ≤ k1) ∧ Aside0 (w'.heap[gb178]? = some (.cells #[(.slice A177_0 ((rd_T53 l0 x14_1).f0).length c177_0), .int .u32 ((rd_T53 l0 x14_1).f1)] 53 (0, 0))) ∧ Aside0 (Below w.heap.size w w'))
      case atStart => exact ⟨(0), eq_now, H', ⟨Nat.le_refl _⟩, ⟨bk_now⟩, ⟨b_now⟩⟩
      case round =>
       clear H'
       clear c4b0 c5b0 c6b0 hcz8 hx177_0 hx177_1 p177 q177
       obtain ⟨x22_2, rfl, HA, HK2, BK178, HB⟩ := hrel
       cases gk with
       | zero => exact absurd HA.out (by simp [rule_Judge.l1])
       | succ k2 =>
        have H := HA.out
        clear HA
        simp only [rule_Judge.l1] at H
        by_cases c9 : x22_2 < (((rd_T53 l0 x14_1).f0).length : Int)
        ·rw [if_pos c9] at H
         have c9b0 : decide (x22_2 < (((rd_T53 l0 x14_1).f0).length : Int)) = true := decide_eq_true c9
         clear c9
         by_cases c10 : 0 ≤ x22_2
         ·rw [if_pos c10] at H
          have c10b0 : decide (0 ≤ x22_2) = true := decide_eq_true c10
          clear c10
          by_cases c11 : x22_2 < (((rd_T53 l0 x14_1).f0).length : Int)
          ·rw [if_pos c11] at H
           have c11b0 : decide (x22_2 < (((rd_T53 l0 x14_1).f0).length : Int)) = true := decide_eq_true c11
           clear c11
           replace H := Option.bind_eq_some_iff.mp H; obtain ⟨t181, A120, H⟩ := H; try dsimp only at H
           have A12 := Aside0.mk A120
           clear A120
           by_cases c13 : t181 = true
           ·subst c13
            replace H := sh_t H
            have H' := Aside0.mk H
            clear H
            have p179 : 0 ≤ (x22_2 : Int) := of_decide_eq_true (by first | (with_reducible assumption) | assumption)
            have q179 : x22_2 < (((rd_T53 l0 x14_1).f0).length : Int) := of_decide_eq_true (by first | (with_reducible assumption) | assumption)
            obtain ⟨ad179, e179, hx179_0, hx179_1, hx179_2, hx179_3, hx179_4, hx179_5, hx179_6⟩ := at_T50 HR177_0.out x22_2 p179 q179
            cases e179
            replace hx179_0 := (HB.out.cell (World.block_lt_of_cell? w _ hx179_0)).trans hx179_0
            replace hx179_1 := (HB.out.cell (World.block_lt_of_cell? w _ hx179_1)).trans hx179_1
            replace hx179_2 := (HB.out.cell (World.block_lt_of_cell? w _ hx179_2)).trans hx179_2
            replace hx179_3 := (HB.out.cell (World.block_lt_of_cell? w _ hx179_3)).trans hx179_3
            replace hx179_4 := (HB.out.cell (World.block_lt_of_cell? w _ hx179_4)).trans hx179_4
            replace hx179_5 := (HB.out.cell (World.block_lt_of_cell? w _ hx179_5)).trans hx179_5
            replace hx179_6 := (HB.out.cell (World.block_lt_of_cell? w _ hx179_6)).trans hx179_6
            replace p179 := eq_true p179
            replace q179 := eq_true q179
            go_wp2_with (first | ((with_reducible refine gate_dst (N := 11) rfl ?_); refine sh_box 11 #[.bool false, .int .i64 0, .int .i64 0, .int .i64 0, .int .u64 0, .int .u64 0, .int .u64 0] 50 ?_; intro gb180 hg w14 hbox hb; have GE180 := sh_z (w := w) hg; have NB178_180 := sh_n BK178 hg; have NB180_178 := sh_s NB178_180; replace BK178 := sh_k BK178 hb; replace HB := sh_b (w := w) hb; have BK180 := Aside0.mk (hbox); clear hb hbox hg; have hnb15 := NB180_178.out; have hnc15 := NB178_180.out; have hcz16 := blk_all7 BK180.out) | ((with_reducible refine gate_callee (f := 20) rfl ?_); refine sh_call (some 29) Tryd.func20 #[.agg #[.bool ((rd_T50 ((rd_T53 l0 x14_1).f0) x22_2).f0), .int .i64 ((rd_T50 ((rd_T53 l0 x14_1).f0) x22_2).f1), .int .i64 ((rd_T50 ((rd_T53 l0 x14_1).f0) x22_2).f2), .int .i64 ((rd_T50 ((rd_T53 l0 x14_1).f0) x22_2).f3), .int .u64 ((rd_T50 ((rd_T53 l0 x14_1).f0) x22_2).f4), .int .u64 ((rd_T50 ((rd_T53 l0 x14_1).f0) x22_2).f5), .int .u64 ((rd_T50 ((rd_T53 l0 x14_1).f0) x22_2).f6)], .slice A1 l1.length c1, .int .u32 a2] ?_; (with_reducible refine (rule_Holds.calls k2 ((rd_T50 ((rd_T53 l0 x14_1).f0) x22_2).f0) ((rd_T50 ((rd_T53 l0 x14_1).f0) x22_2).f1) ((rd_T50 ((rd_T53 l0 x14_1).f0) x22_2).f2) ((rd_T50 ((rd_T53 l0 x14_1).f0) x22_2).f3) ((rd_T50 ((rd_T53 l0 x14_1).f0) x22_2).f4) ((rd_T50 ((rd_T53 l0 x14_1).f0) x22_2).f5) ((rd_T50 ((rd_T53 l0 x14_1).f0) x22_2).f6) _ _ l1 a2 true _ ?side1 ?side2 A12.out).mono ?_); (case side1 => exact Kd.C_below HR1.out b_now); (case side2 => exact HC1.out); rintro e w17 ⟨rfl, hb⟩; refine ⟨_, rfl, ?_⟩; replace BK178 := sh_kp (g := gb178) (t := 53) #[.slice (some ad179) ((rd_T53 l0 x14_1).f0).length c177_0, .int .u32 ((rd_T53 l0 x14_1).f1)] hb; replace BK180 := sh_kp (g := gb180) (t := 50) #[.bool ((rd_T50 ((rd_T53 l0 x14_1).f0) x22_2).f0), .int .i64 ((rd_T50 ((rd_T53 l0 x14_1).f0) x22_2).f1), .int .i64 ((rd_T50 ((rd_T53 l0 x14_1).f0) x22_2).f2), .int .i64 ((rd_T50 ((rd_T53 l0 x14_1).f0) x22_2).f3), .int .u64 ((rd_T50 ((rd_T53 l0 x14_1).f0) x22_2).f4), .int .u64 ((rd_T50 ((rd_T53 l0 x14_1).f0) x22_2).f5), .int .u64 ((rd_T50 ((rd_T53 l0 x14_1).f0) x22_2).f6)] hb; replace HB := sh_b (w := w) hb; (try clear hb); (try clear hb2); (try clear hk); (try clear hi)))
            go_roundg k2
            case measure => have := HK1.out; have := HK2.out; omega
            case rel => exact ⟨(wrap64 (x22_2 + 1)), eq_now, H', ⟨by have := HK1.out; have := HK2.out; omega⟩, ⟨bk_now⟩, ⟨b_now⟩⟩
           ·replace c13 := Bool.eq_false_iff.mpr c13
            subst c13
            replace H := sh_f H
            have H' := Aside0.mk H
            clear H
            have p179 : 0 ≤ (x22_2 : Int) := of_decide_eq_true (by first | (with_reducible assumption) | assumption)
            have q179 : x22_2 < (((rd_T53 l0 x14_1).f0).length : Int) := of_decide_eq_true (by first | (with_reducible assumption) | assumption)
            obtain ⟨ad179, e179, hx179_0, hx179_1, hx179_2, hx179_3, hx179_4, hx179_5, hx179_6⟩ := at_T50 HR177_0.out x22_2 p179 q179
            cases e179
            replace hx179_0 := (HB.out.cell (World.block_lt_of_cell? w _ hx179_0)).trans hx179_0
            replace hx179_1 := (HB.out.cell (World.block_lt_of_cell? w _ hx179_1)).trans hx179_1
            replace hx179_2 := (HB.out.cell (World.block_lt_of_cell? w _ hx179_2)).trans hx179_2
            replace hx179_3 := (HB.out.cell (World.block_lt_of_cell? w _ hx179_3)).trans hx179_3
            replace hx179_4 := (HB.out.cell (World.block_lt_of_cell? w _ hx179_4)).trans hx179_4
            replace hx179_5 := (HB.out.cell (World.block_lt_of_cell? w _ hx179_5)).trans hx179_5
            replace hx179_6 := (HB.out.cell (World.block_lt_of_cell? w _ hx179_6)).trans hx179_6
            replace p179 := eq_true p179
            replace q179 := eq_true q179
            go_wp2_with (first | ((with_reducible refine gate_dst (N := 11) rfl ?_); refine sh_box 11 #[.bool false, .int .i64 0, .int .i64 0, .int .i64 0, .int .u64 0, .int .u64 0, .int .u64 0] 50 ?_; intro gb180 hg w18 hbox hb; have GE180 := sh_z (w := w) hg; have NB178_180 := sh_n BK178 hg; have NB180_178 := sh_s NB178_180; replace BK178 := sh_k BK178 hb; replace HB := sh_b (w := w) hb; have BK180 := Aside0.mk (hbox); clear hb hbox hg; have hnb19 := NB180_178.out; have hnc19 := NB178_180.out; have hcz20 := blk_all7 BK180.out) | ((with_reducible refine gate_callee (f := 20) rfl ?_); refine sh_call (some 29) Tryd.func20 #[.agg #[.bool ((rd_T50 ((rd_T53 l0 x14_1).f0) x22_2).f0), .int .i64 ((rd_T50 ((rd_T53 l0 x14_1).f0) x22_2).f1), .int .i64 ((rd_T50 ((rd_T53 l0 x14_1).f0) x22_2).f2), .int .i64 ((rd_T50 ((rd_T53 l0 x14_1).f0) x22_2).f3), .int .u64 ((rd_T50 ((rd_T53 l0 x14_1).f0) x22_2).f4), .int .u64 ((rd_T50 ((rd_T53 l0 x14_1).f0) x22_2).f5), .int .u64 ((rd_T50 ((rd_T53 l0 x14_1).f0) x22_2).f6)], .slice A1 l1.length c1, .int .u32 a2] ?_; (with_reducible refine (rule_Holds.calls k2 ((rd_T50 ((rd_T53 l0 x14_1).f0) x22_2).f0) ((rd_T50 ((rd_T53 l0 x14_1).f0) x22_2).f1) ((rd_T50 ((rd_T53 l0 x14_1).f0) x22_2).f2) ((rd_T50 ((rd_T53 l0 x14_1).f0) x22_2).f3) ((rd_T50 ((rd_T53 l0 x14_1).f0) x22_2).f4) ((rd_T50 ((rd_T53 l0 x14_1).f0) x22_2).f5) ((rd_T50 ((rd_T53 l0 x14_1).f0) x22_2).f6) _ _ l1 a2 false _ ?side1 ?side2 A12.out).mono ?_); (case side1 => exact Kd.C_below HR1.out b_now); (case side2 => exact HC1.out); rintro e w21 ⟨rfl, hb⟩; refine ⟨_, rfl, ?_⟩; replace BK178 := sh_kp (g := gb178) (t := 53) #[.slice (some ad179) ((rd_T53 l0 x14_1).f0).length c177_0, .int .u32 ((rd_T53 l0 x14_1).f1)] hb; replace BK180 := sh_kp (g := gb180) (t := 50) #[.bool ((rd_T50 ((rd_T53 l0 x14_1).f0) x22_2).f0), .int .i64 ((rd_T50 ((rd_T53 l0 x14_1).f0) x22_2).f1), .int .i64 ((rd_T50 ((rd_T53 l0 x14_1).f0) x22_2).f2), .int .i64 ((rd_T50 ((rd_T53 l0 x14_1).f0) x22_2).f3), .int .u64 ((rd_T50 ((rd_T53 l0 x14_1).f0) x22_2).f4), .int .u64 ((rd_T50 ((rd_T53 l0 x14_1).f0) x22_2).f5), .int .u64 ((rd_T50 ((rd_T53 l0 x14_1).f0) x22_2).f6)] hb; replace HB := sh_b (w := w) hb; (try clear hb); (try clear hb2); (try clear hk); (try clear hi)))
            go_roundg k2
            case measure => have := HK1.out; have := HK2.out; omega
            case rel => exact ⟨(wrap64 (x14_1 + 1)), eq_now, H', ⟨by have := HK1.out; have := HK2.out; omega⟩, ⟨b_now⟩⟩
          ·rw [if_neg c11] at H
           exact absurd H (by simp)
         ·rw [if_neg c10] at H
          exact absurd H (by simp)
        ·rw [if_neg c9] at H
         have c9b0 : decide (x22_2 < (((rd_T53 l0 x14_1).f0).length : Int)) = false := decide_eq_false c9
         clear c9
         simp only [Option.some.injEq, Prod.mk.injEq] at H
         obtain ⟨rfl, rfl⟩ := H
         have hcz22 := blk_all2 BK178.out
         go_wp2
         try rw [Exit.noGoto_ret]
         go_ret2
         exact ⟨ret_now, b_now⟩
     ·rw [if_neg c6] at H
      exact absurd H (by simp)
    ·rw [if_neg c5] at H
     exact absurd H (by simp)
   ·rw [if_neg c4] at H
    have c4b0 : decide (x14_1 < (l0.length : Int)) = false := decide_eq_false c4
    clear c4
    simp only [Option.some.injEq, Prod.mk.injEq] at H
    obtain ⟨rfl, rfl⟩ := H
    go_wp2
    try rw [Exit.noGoto_ret]
    go_ret2
    exact ⟨ret_now, b_now⟩

-- NOT PRINTED: function 91 (bytealg_IndexByteString)

-- NOT PRINTED: function 74 (stringslite_IndexByte)

-- NOT PRINTED: function 75 (bytealg_IndexString)

/-! ### bytealg_Cutover: function 76 -/
def bytealg_Cutover.f (a0 : Int) : Option (Int) := some (wrap64 (Int.tdiv (wrap64 (a0 + 16)) 8))
set_option maxHeartbeats 8000000 in
set_option maxRecDepth 100000 in
theorem bytealg_Cutover.calls (a0 : Int) (r : Int) (w : World) (h : bytealg_Cutover.f a0 = some r) :
  Calls Tryd.prog 76 #[.int .i64 a0] w fun e w' => e = .returned (.int .i64 r) ∧ Drawn0 w w' := by
 have H : (some (wrap64 (Int.tdiv (wrap64 (a0 + 16)) 8))) = some r := h
 clear h
 obtain rfl := Option.some.inj H
 go_enter Tryd.func76, Tryd.ntmps76
 go_wp2
 go_ret
 exact ⟨by first | rfl | (simp; done) | (simp [*]; done), by repeat (first | exact Drawn0.refl _ | apply Drawn0.step)⟩

end Go.Proofs.YtighficpbplkhaaDoor.P
