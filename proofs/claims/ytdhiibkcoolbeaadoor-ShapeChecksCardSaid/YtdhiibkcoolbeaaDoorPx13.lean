/- Made by this session's driver over the kit's printer: for each Go function a Lean function with the same answers, and a proof that the Go call comes to these answers; no conditions but the ones each theorem names. -/
import Derived.Test.YtdhiibkcoolbeaaDoorPx0
import Derived.Test.YtdhiibkcoolbeaaDoorPx12
namespace Go.Proofs.YtdhiibkcoolbeaaDoor.P
open Go.RowKit Go.Proofs.YtdhiibkcoolbeaaDoorW.PrintWords Go.Proofs.YtdhiibkcoolbeaaDoorW.PrintLast Go.Proofs.YtdhiibkcoolbeaaDoorW.PrintMore
attribute [local go_sem] max2_int min2_int max_two min_two max_three min_three max_four min_four   -- for this text's walks alone
set_option linter.unusedVariables false
set_option linter.unusedSimpArgs false

/-! ### stockaderef04_Starts: function 16 -/
def stockaderef04_Starts.l0 : Nat → List (S40) → List Bool → Bool → Int → Option (List Bool)
 | 0, _, _, _, _ => none
 | k + 1, x0, x3, x4, x5 => if x5 < (x0.length : Int) then (if x3.length < 140737488355328 then ((some (x3 ++ [!x4] : List Bool)).bind fun y304 => (if x4 = true then (stockaderef04_Starts.l0 k x0 y304 false (wrap64 (x5 + 1))) else (if 0 ≤ x5 then ((stockaderef02_Places.f k ((rd_T40 x0 x5).f0) ((rd_T40 x0 x5).f1) ((rd_T40 x0 x5).f2) ((rd_T40 x0 x5).f3) ((rd_T40 x0 x5).f4)).bind fun t308 => (stockaderef04_Starts.l0 k x0 y304 (t308 == 2) (wrap64 (x5 + 1)))) else (none)))) else (none)) else (some x3)
def stockaderef04_Starts.f (k : Nat) (l0 : List (S40)) : Option (List Bool) := stockaderef04_Starts.l0 k l0 ([] : List Bool) false 0
theorem stockaderef04_Starts.mono_l : ∀ k, (∀ y0 y1 y2 y3, LeO (stockaderef04_Starts.l0 k y0 y1 y2 y3) (stockaderef04_Starts.l0 (k + 1) y0 y1 y2 y3))
 | 0 => fun _ _ _ _ r h => by simp [stockaderef04_Starts.l0] at h
 | k + 1 => by
  have ih0 := stockaderef04_Starts.mono_l k
  ·intro y0 y1 y2 y3
   unfold stockaderef04_Starts.l0
   repeat' first
   | (with_reducible exact ih0 _ _ _ _)
   | (with_reducible exact stockaderef02_Places.mono _ _ _ _ _ _)
   | (with_reducible exact LeO.refl _)
   | (with_reducible exact LeO.none _)
   | (with_reducible refine LeO.ite ?_ ?_)
   | (with_reducible refine LeO.bind ?_ (fun _ => ?_))
   | exact ih0 _ _ _ _
   | exact stockaderef02_Places.mono _ _ _ _ _ _
   | exact LeO.none _
   | refine LeO.ite ?_ ?_
   | refine LeO.bind ?_ (fun _ => ?_)
theorem stockaderef04_Starts.mono : ∀ a0 k, LeO (stockaderef04_Starts.f k a0) (stockaderef04_Starts.f (k + 1) a0) := by
 intro a0 k
 have ih0 := stockaderef04_Starts.mono_l k
 unfold stockaderef04_Starts.f
 repeat' first
   | (with_reducible exact ih0 _ _ _ _)
   | (with_reducible exact stockaderef02_Places.mono _ _ _ _ _ _)
   | (with_reducible exact LeO.refl _)
   | (with_reducible exact LeO.none _)
   | (with_reducible refine LeO.ite ?_ ?_)
   | (with_reducible refine LeO.bind ?_ (fun _ => ?_))
   | exact ih0 _ _ _ _
   | exact stockaderef02_Places.mono _ _ _ _ _ _
   | exact LeO.none _
   | refine LeO.ite ?_ ?_
   | refine LeO.bind ?_ (fun _ => ?_)
set_option maxHeartbeats 8000000 in
set_option maxRecDepth 100000 in
theorem stockaderef04_Starts.calls (k : Nat) (A0 : Option Addr) (c0 : Nat) (l0 : List (S40)) (r : List Bool) (w : World) (hr0 : Kd.C k40 w A0 l0.length l0) (hc0 : l0.length ≤ c0) (h : stockaderef04_Starts.f k l0 = some r) :
  Calls Tryd.prog 16 #[.slice A0 l0.length c0] w fun e w' => ∃ v0_ : Value, e = .returned (v0_) ∧ Kd.R Kd.bool 4 w' w.heap.size (fun _ => True) v0_ r ∧ Below w.heap.size w w' := by
 have hu40 := Tryd.underlying40
 have HR0 := Aside0.mk hr0
 have HC0 := Aside0.mk hc0
 clear hr0 hc0
 have HB := Aside0.mk (Below.refl w.heap.size w)
 have H : (stockaderef04_Starts.l0 k l0 ([] : List Bool) false 0) = some r := h
 clear h
 have H' := Aside0.mk H
 clear H
 go_enter Tryd.func16, Tryd.ntmps16
 go_wp2
 go_loopg [3, 4, 5] k (fun kq v3 v4 v5 w' => ∃ (x3_1 : List Bool) (x4_1 : Bool) (x5_1 : Int), v4 = .bool x4_1 ∧ v5 = .int .i64 x5_1 ∧ Aside0 (stockaderef04_Starts.l0 kq l0 x3_1 x4_1 x5_1 = some r) ∧ Aside0 (kq ≤ k) ∧ Aside0 (Kd.R Kd.bool 4 w' w.heap.size (fun _ => True) v3 x3_1) ∧ Aside0 (Below w.heap.size w w'))
 case atStart => exact ⟨(([] : List Bool)), (false), (0), eq_now, eq_now, H', ⟨Nat.le_refl _⟩, ⟨by first | exact Kd.R_nil _ _ _ _ _ | exact Kd.N_nil _ _ _ _ _ | exact Kd.V_nil _ _ _ _ _ | exact Kd.Q_nil _ _ _ _ _ | exact Kd.S_nil _ _ _ _ _⟩, ⟨b_now⟩⟩
 case round =>
  clear H'
  try clear c1
  obtain ⟨x3_1, x4_1, x5_1, rfl, rfl, HA, HK1, HO_3, HB⟩ := hrel
  cases gk with
  | zero => exact absurd HA.out (by simp [stockaderef04_Starts.l0])
  | succ k1 =>
   have H := HA.out
   clear HA
   simp only [stockaderef04_Starts.l0] at H
   by_cases c2 : x5_1 < (l0.length : Int)
   ·rw [if_pos c2] at H
    have c2b0 : decide (x5_1 < (l0.length : Int)) = true := decide_eq_true c2
    clear c2
    by_cases c3 : x3_1.length < 140737488355328
    ·rw [if_pos c3] at H
     have LMc3 := Aside0.mk c3
     clear c3
     obtain ⟨y304, hy304⟩ : ∃ y_ : List Bool, y_ = (x3_1 ++ [!x4_1]) := ⟨_, rfl⟩
     replace H : (if x4_1 = true then (stockaderef04_Starts.l0 k1 l0 y304 false (wrap64 (x5_1 + 1))) else (if 0 ≤ x5_1 then ((stockaderef02_Places.f k1 ((rd_T40 l0 x5_1).f0) ((rd_T40 l0 x5_1).f1) ((rd_T40 l0 x5_1).f2) ((rd_T40 l0 x5_1).f3) ((rd_T40 l0 x5_1).f4)).bind fun t308 => (stockaderef04_Starts.l0 k1 l0 y304 (t308 == 2) (wrap64 (x5_1 + 1)))) else (none))) = some r := by first | (rw [hy304]; with_reducible exact H) | (have H2_ := (Option.bind_some _ _).symm.trans H; rw [hy304]; with_reducible exact H2_) | (have H2_ := (Option.bind_some _ _).symm.trans H; with_reducible exact H2_) | with_reducible exact H | (rw [hy304]; exact H) | exact H
     have Ny304 := Aside0.mk hy304
     clear hy304
     by_cases c4 : x4_1 = true
     ·subst c4
      replace H := sh_t H
      have H' := Aside0.mk H
      clear H
      go_wp2_with (first | ((with_reducible refine gate_builtin (b := .append) (xs := #[.tmp 12, .tmp 15]) rfl ?_); at_builtin; refine Kd.R_append Kd.bool (w0 := w) w.heap.size rfl (.tmp 12) (.tmp 15) 35 4 (.bool false) 1 rfl Tryd.underlying35 info4 rfl (by decide) (by omega) u3 x3_1 (!true) [.bool (!true)] (fun _ => True) (fun _ => False) rfl rfl ?aP (fun _ hk => hk.elim) ?aF ?aO ?aB ?aS ?aL ?_; (case aP => exact rfl); (case aB => exact b_now); (case aF => exact (fun _ _ => trivial)); (case aO => exact (by (with_reducible repeat (first | apply Kd.R_alloc | apply Kd.R_drewN | apply Kd.R_drew)); exact HO_3.out)); (case aS => exact (below_size b_now)); (case aL => have := LMc3.out; omega); intro v305 w5 ho hb hg hat; rw [← Ny304.out] at ho; have n0_ := Aside0.mk (hb); have n1_ := Aside0.mk (ho); clear HB; clear HO_3; have HB := n0_; have HO306 := n1_; clear n0_ n1_; clear ho hb hg hat))
      go_roundg k1
      case measure => have := HK1.out; omega
      case rel => exact ⟨(y304), (false), (wrap64 (x5_1 + 1)), eq_now, eq_now, H', ⟨by have := HK1.out; omega⟩, ⟨by (with_reducible repeat (first | apply Kd.R_alloc | apply Kd.R_drewN | apply Kd.R_drew)); exact HO306.out⟩, ⟨b_now⟩⟩
     ·replace c4 := Bool.eq_false_iff.mpr c4
      subst c4
      replace H := sh_f H
      by_cases c6 : 0 ≤ x5_1
      ·rw [if_pos c6] at H
       have c6b0 : decide (0 ≤ x5_1) = true := decide_eq_true c6
       clear c6
       replace H := Option.bind_eq_some_iff.mp H; obtain ⟨t308, A70, H⟩ := H; try dsimp only at H
       have A7 := Aside0.mk A70
       clear A70
       have H' := Aside0.mk H
       clear H
       go_wp2_with (first | ((with_reducible refine gate_builtin (b := .append) (xs := #[.tmp 12, .tmp 15]) rfl ?_); at_builtin; refine Kd.R_append Kd.bool (w0 := w) w.heap.size rfl (.tmp 12) (.tmp 15) 35 4 (.bool false) 1 rfl Tryd.underlying35 info4 rfl (by decide) (by omega) u3 x3_1 (!false) [.bool (!false)] (fun _ => True) (fun _ => False) rfl rfl ?aP (fun _ hk => hk.elim) ?aF ?aO ?aB ?aS ?aL ?_; (case aP => exact rfl); (case aB => exact b_now); (case aF => exact (fun _ _ => trivial)); (case aO => exact (by (with_reducible repeat (first | apply Kd.R_alloc | apply Kd.R_drewN | apply Kd.R_drew)); exact HO_3.out)); (case aS => exact (below_size b_now)); (case aL => have := LMc3.out; omega); intro v305 w8 ho hb hg hat; rw [← Ny304.out] at ho; have n0_ := Aside0.mk (hb); have n1_ := Aside0.mk (ho); clear HB; clear HO_3; have HB := n0_; have HO306 := n1_; clear n0_ n1_; clear ho hb hg hat; have p307 : 0 ≤ (x5_1 : Int) := of_decide_eq_true (by first | (with_reducible assumption) | assumption); have q307 : x5_1 < (l0.length : Int) := of_decide_eq_true (by first | (with_reducible assumption) | assumption); obtain ⟨ad307, e307, hx307_0, hx307_1, hx307_2, hx307_3, hx307_4⟩ := at_T40 HR0.out x5_1 p307 q307; cases e307; replace hx307_0 := (HB.out.cell (World.block_lt_of_cell? w _ hx307_0)).trans hx307_0; replace hx307_1 := (HB.out.cell (World.block_lt_of_cell? w _ hx307_1)).trans hx307_1; replace hx307_2 := (HB.out.cell (World.block_lt_of_cell? w _ hx307_2)).trans hx307_2; replace hx307_3 := (HB.out.cell (World.block_lt_of_cell? w _ hx307_3)).trans hx307_3; replace hx307_4 := (HB.out.cell (World.block_lt_of_cell? w _ hx307_4)).trans hx307_4; replace p307 := eq_true p307; replace q307 := eq_true q307) | (go_at_call 31; (with_reducible refine (stockaderef02_Places.calls k1 ((rd_T40 l0 x5_1).f0) ((rd_T40 l0 x5_1).f1) ((rd_T40 l0 x5_1).f2) ((rd_T40 l0 x5_1).f3) ((rd_T40 l0 x5_1).f4) t308 _ A7.out).mono ?_); rintro e w9 ⟨rfl, hb⟩; replace HO306 := Aside0.mk (Kd.R_below (by (with_reducible repeat (first | apply Kd.R_alloc | apply Kd.R_drewN | apply Kd.R_drew)); exact HO306.out) hb); replace HB := sh_b (w := w) hb; (try clear hb); (try clear hb2); (try clear hk); (try clear hi)))
       go_roundg k1
       case measure => have := HK1.out; omega
       case rel => exact ⟨(y304), ((t308 == 2)), (wrap64 (x5_1 + 1)), eq_now, eq_now, H', ⟨by have := HK1.out; omega⟩, ⟨by (with_reducible repeat (first | apply Kd.R_alloc | apply Kd.R_drewN | apply Kd.R_drew)); exact HO306.out⟩, ⟨b_now⟩⟩
      ·rw [if_neg c6] at H
       exact absurd H (by simp)
    ·rw [if_neg c3] at H
     exact absurd H (by simp)
   ·rw [if_neg c2] at H
    have c2b0 : decide (x5_1 < (l0.length : Int)) = false := decide_eq_false c2
    clear c2
    obtain rfl := Option.some.inj H
    go_wp2
    go_ret
    exact ⟨_, ret_now, by (with_reducible repeat (first | apply Kd.R_alloc | apply Kd.R_drewN | apply Kd.R_drew)); exact HO_3.out, b_now⟩

/-! ### stockaderef04_Target: function 20 -/
def stockaderef04_Target.f (a0 : Int) (a1_0 : Int) (a1_1 : Int) (a1_2 : Int) (a1_3 : Int) (a1_4 : Int) : Option (Int) := some (wrap64 ((wrap64 (a0 + 1)) + (wrap64 (a1_3))))
set_option maxHeartbeats 8000000 in
set_option maxRecDepth 100000 in
theorem stockaderef04_Target.calls (a0 : Int) (a1_0 : Int) (a1_1 : Int) (a1_2 : Int) (a1_3 : Int) (a1_4 : Int) (r : Int) (w : World) (h : stockaderef04_Target.f a0 a1_0 a1_1 a1_2 a1_3 a1_4 = some r) :
  Calls Tryd.prog 20 #[.int .i64 a0, .agg #[.int .u8 a1_0, .int .u8 a1_1, .int .u8 a1_2, .int .i16 a1_3, .int .i32 a1_4]] w fun e w' => e = .returned (.int .i64 r) ∧ Below w.heap.size w w' := by
 have hu40 := Tryd.underlying40
 have HB := Aside0.mk (Below.refl w.heap.size w)
 have H : (some (wrap64 ((wrap64 (a0 + 1)) + (wrap64 (a1_3))))) = some r := h
 clear h
 obtain rfl := Option.some.inj H
 go_enter Tryd.func20, Tryd.ntmps20
 go_wp2_with (first | ((with_reducible refine gate_dst (N := 3) rfl ?_); refine sh_box 3 #[.int .u8 a1_0, .int .u8 a1_1, .int .u8 a1_2, .int .i16 a1_3, .int .i32 a1_4] 40 ?_; intro gb309 hg w3 hbox hb; have GE309 := sh_z (w := w) hg; replace HB := sh_b (w := w) hb; have BK309 := Aside0.mk (hbox); clear hb hbox hg; have hcz4 := blk_all5 BK309.out))
 go_ret
 exact ⟨ret_now, b_now⟩

/-! ### stockaderef04_May: function 28 -/
def stockaderef04_May.f (a0_0 : Int) (a0_1 : Int) (a0_2 : Int) (a0_3 : Int) : Option (Bool) := if a0_0 < 1 then (some false) else (if a0_0 > 3 then (some false) else (if a0_1 < 1 then (some false) else (if a0_1 > 16 then (some false) else (if a0_2 < 1 then (some false) else (if a0_2 > 64 then (some false) else (if a0_3 < 1 then (some false) else (if a0_3 > 64 then (some false) else (if a0_0 = 1 then (some (a0_1 == 4)) else (some true)))))))))
set_option maxHeartbeats 8000000 in
set_option maxRecDepth 100000 in
theorem stockaderef04_May.calls (a0_0 : Int) (a0_1 : Int) (a0_2 : Int) (a0_3 : Int) (r : Bool) (w : World) (h : stockaderef04_May.f a0_0 a0_1 a0_2 a0_3 = some r) :
  Calls Tryd.prog 28 #[.agg #[.int .i64 a0_0, .int .i64 a0_1, .int .i64 a0_2, .int .i64 a0_3]] w fun e w' => e = .returned (.bool r) ∧ Below w.heap.size w w' := by
 have hu52 := Tryd.underlying52
 have HB := Aside0.mk (Below.refl w.heap.size w)
 have H : (if a0_0 < 1 then (some false) else (if a0_0 > 3 then (some false) else (if a0_1 < 1 then (some false) else (if a0_1 > 16 then (some false) else (if a0_2 < 1 then (some false) else (if a0_2 > 64 then (some false) else (if a0_3 < 1 then (some false) else (if a0_3 > 64 then (some false) else (if a0_0 = 1 then (some (a0_1 == 4)) else (some true)))))))))) = some r := h
 clear h
 by_cases c2 : a0_0 < 1
 ·rw [if_pos c2] at H
  have c2b0 : decide (a0_0 < 1) = true := decide_eq_true c2
  clear c2
  obtain rfl := Option.some.inj H
  go_enter Tryd.func28, Tryd.ntmps28
  go_wp2_with (first | ((with_reducible refine gate_dst (N := 1) rfl ?_); refine sh_box 1 #[.int .i64 a0_0, .int .i64 a0_1, .int .i64 a0_2, .int .i64 a0_3] 52 ?_; intro gb310 hg w3 hbox hb; have GE310 := sh_z (w := w) hg; replace HB := sh_b (w := w) hb; have BK310 := Aside0.mk (hbox); clear hb hbox hg; have hcz4 := blk_all4 BK310.out))
  go_ret
  exact ⟨ret_now, b_now⟩
 ·rw [if_neg c2] at H
  have c2b0 : decide (a0_0 < 1) = false := decide_eq_false c2
  clear c2
  by_cases c5 : a0_0 > 3
  ·rw [if_pos c5] at H
   have c5b0 : decide (3 < a0_0) = true := decide_eq_true c5
   clear c5
   obtain rfl := Option.some.inj H
   go_enter Tryd.func28, Tryd.ntmps28
   go_wp2_with (first | ((with_reducible refine gate_dst (N := 1) rfl ?_); refine sh_box 1 #[.int .i64 a0_0, .int .i64 a0_1, .int .i64 a0_2, .int .i64 a0_3] 52 ?_; intro gb310 hg w6 hbox hb; have GE310 := sh_z (w := w) hg; replace HB := sh_b (w := w) hb; have BK310 := Aside0.mk (hbox); clear hb hbox hg; have hcz7 := blk_all4 BK310.out))
   go_ret
   exact ⟨ret_now, b_now⟩
  ·rw [if_neg c5] at H
   have c5b0 : decide (3 < a0_0) = false := decide_eq_false c5
   clear c5
   by_cases c8 : a0_1 < 1
   ·rw [if_pos c8] at H
    have c8b0 : decide (a0_1 < 1) = true := decide_eq_true c8
    clear c8
    obtain rfl := Option.some.inj H
    go_enter Tryd.func28, Tryd.ntmps28
    go_wp2_with (first | ((with_reducible refine gate_dst (N := 1) rfl ?_); refine sh_box 1 #[.int .i64 a0_0, .int .i64 a0_1, .int .i64 a0_2, .int .i64 a0_3] 52 ?_; intro gb310 hg w9 hbox hb; have GE310 := sh_z (w := w) hg; replace HB := sh_b (w := w) hb; have BK310 := Aside0.mk (hbox); clear hb hbox hg; have hcz10 := blk_all4 BK310.out))
    go_ret
    exact ⟨ret_now, b_now⟩
   ·rw [if_neg c8] at H
    have c8b0 : decide (a0_1 < 1) = false := decide_eq_false c8
    clear c8
    by_cases c11 : a0_1 > 16
    ·rw [if_pos c11] at H
     have c11b0 : decide (16 < a0_1) = true := decide_eq_true c11
     clear c11
     obtain rfl := Option.some.inj H
     go_enter Tryd.func28, Tryd.ntmps28
     go_wp2_with (first | ((with_reducible refine gate_dst (N := 1) rfl ?_); refine sh_box 1 #[.int .i64 a0_0, .int .i64 a0_1, .int .i64 a0_2, .int .i64 a0_3] 52 ?_; intro gb310 hg w12 hbox hb; have GE310 := sh_z (w := w) hg; replace HB := sh_b (w := w) hb; have BK310 := Aside0.mk (hbox); clear hb hbox hg; have hcz13 := blk_all4 BK310.out))
     go_ret
     exact ⟨ret_now, b_now⟩
    ·rw [if_neg c11] at H
     have c11b0 : decide (16 < a0_1) = false := decide_eq_false c11
     clear c11
     by_cases c14 : a0_2 < 1
     ·rw [if_pos c14] at H
      have c14b0 : decide (a0_2 < 1) = true := decide_eq_true c14
      clear c14
      obtain rfl := Option.some.inj H
      go_enter Tryd.func28, Tryd.ntmps28
      go_wp2_with (first | ((with_reducible refine gate_dst (N := 1) rfl ?_); refine sh_box 1 #[.int .i64 a0_0, .int .i64 a0_1, .int .i64 a0_2, .int .i64 a0_3] 52 ?_; intro gb310 hg w15 hbox hb; have GE310 := sh_z (w := w) hg; replace HB := sh_b (w := w) hb; have BK310 := Aside0.mk (hbox); clear hb hbox hg; have hcz16 := blk_all4 BK310.out))
      go_ret
      exact ⟨ret_now, b_now⟩
     ·rw [if_neg c14] at H
      have c14b0 : decide (a0_2 < 1) = false := decide_eq_false c14
      clear c14
      by_cases c17 : a0_2 > 64
      ·rw [if_pos c17] at H
       have c17b0 : decide (64 < a0_2) = true := decide_eq_true c17
       clear c17
       obtain rfl := Option.some.inj H
       go_enter Tryd.func28, Tryd.ntmps28
       go_wp2_with (first | ((with_reducible refine gate_dst (N := 1) rfl ?_); refine sh_box 1 #[.int .i64 a0_0, .int .i64 a0_1, .int .i64 a0_2, .int .i64 a0_3] 52 ?_; intro gb310 hg w18 hbox hb; have GE310 := sh_z (w := w) hg; replace HB := sh_b (w := w) hb; have BK310 := Aside0.mk (hbox); clear hb hbox hg; have hcz19 := blk_all4 BK310.out))
       go_ret
       exact ⟨ret_now, b_now⟩
      ·rw [if_neg c17] at H
       have c17b0 : decide (64 < a0_2) = false := decide_eq_false c17
       clear c17
       by_cases c20 : a0_3 < 1
       ·rw [if_pos c20] at H
        have c20b0 : decide (a0_3 < 1) = true := decide_eq_true c20
        clear c20
        obtain rfl := Option.some.inj H
        go_enter Tryd.func28, Tryd.ntmps28
        go_wp2_with (first | ((with_reducible refine gate_dst (N := 1) rfl ?_); refine sh_box 1 #[.int .i64 a0_0, .int .i64 a0_1, .int .i64 a0_2, .int .i64 a0_3] 52 ?_; intro gb310 hg w21 hbox hb; have GE310 := sh_z (w := w) hg; replace HB := sh_b (w := w) hb; have BK310 := Aside0.mk (hbox); clear hb hbox hg; have hcz22 := blk_all4 BK310.out))
        go_ret
        exact ⟨ret_now, b_now⟩
       ·rw [if_neg c20] at H
        have c20b0 : decide (a0_3 < 1) = false := decide_eq_false c20
        clear c20
        by_cases c23 : a0_3 > 64
        ·rw [if_pos c23] at H
         have c23b0 : decide (64 < a0_3) = true := decide_eq_true c23
         clear c23
         obtain rfl := Option.some.inj H
         go_enter Tryd.func28, Tryd.ntmps28
         go_wp2_with (first | ((with_reducible refine gate_dst (N := 1) rfl ?_); refine sh_box 1 #[.int .i64 a0_0, .int .i64 a0_1, .int .i64 a0_2, .int .i64 a0_3] 52 ?_; intro gb310 hg w24 hbox hb; have GE310 := sh_z (w := w) hg; replace HB := sh_b (w := w) hb; have BK310 := Aside0.mk (hbox); clear hb hbox hg; have hcz25 := blk_all4 BK310.out))
         go_ret
         exact ⟨ret_now, b_now⟩
        ·rw [if_neg c23] at H
         have c23b0 : decide (64 < a0_3) = false := decide_eq_false c23
         clear c23
         by_cases c26 : a0_0 = 1
         ·rw [if_pos c26] at H
          have c26b0 : (a0_0 == 1) = true := beq_iff_eq.mpr c26
          have c26b1 : (a0_0 != 1) = false := bne_eq_false_iff_eq.mpr c26
          clear c26
          obtain rfl := Option.some.inj H
          go_enter Tryd.func28, Tryd.ntmps28
          go_wp2_with (first | ((with_reducible refine gate_dst (N := 1) rfl ?_); refine sh_box 1 #[.int .i64 a0_0, .int .i64 a0_1, .int .i64 a0_2, .int .i64 a0_3] 52 ?_; intro gb310 hg w27 hbox hb; have GE310 := sh_z (w := w) hg; replace HB := sh_b (w := w) hb; have BK310 := Aside0.mk (hbox); clear hb hbox hg; have hcz28 := blk_all4 BK310.out))
          go_ret
          exact ⟨ret_now, b_now⟩
         ·rw [if_neg c26] at H
          have c26b0 : (a0_0 == 1) = false := beq_eq_false_iff_ne.mpr c26
          have c26b1 : (a0_0 != 1) = true := bne_iff_ne.mpr c26
          obtain rfl := Option.some.inj H
          go_enter Tryd.func28, Tryd.ntmps28
          go_wp2_with (first | ((with_reducible refine gate_dst (N := 1) rfl ?_); refine sh_box 1 #[.int .i64 a0_0, .int .i64 a0_1, .int .i64 a0_2, .int .i64 a0_3] 52 ?_; intro gb310 hg w29 hbox hb; have GE310 := sh_z (w := w) hg; replace HB := sh_b (w := w) hb; have BK310 := Aside0.mk (hbox); clear hb hbox hg; have hcz30 := blk_all4 BK310.out))
          go_ret
          exact ⟨ret_now, b_now⟩

/-! ### stockaderef04_Helper: function 18 -/
def stockaderef04_Helper.f (a0 : Int) : Option (Bool) := if a0 = 1 then (some true) else (if a0 = 2 then (some true) else (if a0 = 3 then (some true) else (if a0 = 5 then (some true) else (some (a0 == 7)))))
set_option maxHeartbeats 8000000 in
set_option maxRecDepth 100000 in
theorem stockaderef04_Helper.calls (a0 : Int) (r : Bool) (w : World) (h : stockaderef04_Helper.f a0 = some r) :
  Calls Tryd.prog 18 #[.int .i32 a0] w fun e w' => e = .returned (.bool r) ∧ Drawn0 w w' := by
 have H : (if a0 = 1 then (some true) else (if a0 = 2 then (some true) else (if a0 = 3 then (some true) else (if a0 = 5 then (some true) else (some (a0 == 7)))))) = some r := h
 clear h
 by_cases c2 : a0 = 1
 ·rw [if_pos c2] at H
  have c2b0 : (a0 == 1) = true := beq_iff_eq.mpr c2
  have c2b1 : (a0 != 1) = false := bne_eq_false_iff_eq.mpr c2
  clear c2
  obtain rfl := Option.some.inj H
  go_enter Tryd.func18, Tryd.ntmps18
  go_wp2
  go_ret
  exact ⟨by first | rfl | (simp; done) | (simp [*]; done), by repeat (first | exact Drawn0.refl _ | apply Drawn0.step)⟩
 ·rw [if_neg c2] at H
  have c2b0 : (a0 == 1) = false := beq_eq_false_iff_ne.mpr c2
  have c2b1 : (a0 != 1) = true := bne_iff_ne.mpr c2
  by_cases c3 : a0 = 2
  ·rw [if_pos c3] at H
   have c3b0 : (a0 == 2) = true := beq_iff_eq.mpr c3
   have c3b1 : (a0 != 2) = false := bne_eq_false_iff_eq.mpr c3
   clear c3
   obtain rfl := Option.some.inj H
   go_enter Tryd.func18, Tryd.ntmps18
   go_wp2
   go_ret
   exact ⟨by first | rfl | (simp; done) | (simp [*]; done), by repeat (first | exact Drawn0.refl _ | apply Drawn0.step)⟩
  ·rw [if_neg c3] at H
   have c3b0 : (a0 == 2) = false := beq_eq_false_iff_ne.mpr c3
   have c3b1 : (a0 != 2) = true := bne_iff_ne.mpr c3
   by_cases c4 : a0 = 3
   ·rw [if_pos c4] at H
    have c4b0 : (a0 == 3) = true := beq_iff_eq.mpr c4
    have c4b1 : (a0 != 3) = false := bne_eq_false_iff_eq.mpr c4
    clear c4
    obtain rfl := Option.some.inj H
    go_enter Tryd.func18, Tryd.ntmps18
    go_wp2
    go_ret
    exact ⟨by first | rfl | (simp; done) | (simp [*]; done), by repeat (first | exact Drawn0.refl _ | apply Drawn0.step)⟩
   ·rw [if_neg c4] at H
    have c4b0 : (a0 == 3) = false := beq_eq_false_iff_ne.mpr c4
    have c4b1 : (a0 != 3) = true := bne_iff_ne.mpr c4
    by_cases c5 : a0 = 5
    ·rw [if_pos c5] at H
     have c5b0 : (a0 == 5) = true := beq_iff_eq.mpr c5
     have c5b1 : (a0 != 5) = false := bne_eq_false_iff_eq.mpr c5
     clear c5
     obtain rfl := Option.some.inj H
     go_enter Tryd.func18, Tryd.ntmps18
     go_wp2
     go_ret
     exact ⟨by first | rfl | (simp; done) | (simp [*]; done), by repeat (first | exact Drawn0.refl _ | apply Drawn0.step)⟩
    ·rw [if_neg c5] at H
     have c5b0 : (a0 == 5) = false := beq_eq_false_iff_ne.mpr c5
     have c5b1 : (a0 != 5) = true := bne_iff_ne.mpr c5
     obtain rfl := Option.some.inj H
     go_enter Tryd.func18, Tryd.ntmps18
     go_wp2
     go_ret
     exact ⟨by first | rfl | (simp; done) | (simp [*]; done), by repeat (first | exact Drawn0.refl _ | apply Drawn0.step)⟩

end Go.Proofs.YtdhiibkcoolbeaaDoor.P
