/- Made by this session's driver over the kit's printer: for each Go function a Lean function with the same answers, and a proof that the Go call comes to these answers; no conditions but the ones each theorem names. -/
import Derived.Test.YtighficpbplkhaaDoorPx0
import Derived.Test.YtighficpbplkhaaDoorPx21
import Derived.Test.YtighficpbplkhaaDoorPx27
import Derived.Test.YtighficpbplkhaaDoorPx31
namespace Go.Proofs.YtighficpbplkhaaDoor.P
open Go.RowKit Go.Proofs.YtighficpbplkhaaDoorW.PrintWords Go.Proofs.YtighficpbplkhaaDoorW.PrintLast Go.Proofs.YtighficpbplkhaaDoorW.PrintMore
attribute [local go_sem] max2_int min2_int max_two min_two max_three min_three max_four min_four   -- for this text's walks alone
set_option linter.unusedVariables false
set_option linter.unusedSimpArgs false

/-! ### stockaderef18_Parse: function 23 -/
def stockaderef18_Parse.l0 : Nat → ByteArray → List (S46) → Int → Int → Int → Option ((List (S46)) × Int × Int)
 | 0, _, _, _, _, _ => none
 | k + 1, x0, x5, x6, x7, x8 => if x8 < (x0.size : Int) then (if 0 ≤ x8 then (if (bt x0 x8) = 10 then (if 0 ≤ x7 then (if x7 ≤ x8 then (if x8 ≤ (x0.size : Int) then ((stockaderef18_Read.f k (x0.extract (x7 : Int).toNat (x8 : Int).toNat)).bind fun bt510 => (if bt510.2.2 = true then (if (wrap64 (x6 + 1)) > 32 then (some (([] : List (S46)), wrap64 (x6 + 1), 3)) else (if x5.length < 4398046511104 then (stockaderef18_Parse.l0 k x0 (x5 ++ [(⟨bt510.1, bt510.2.1⟩ : S46)]) (wrap64 (x6 + 1)) (wrap64 (x8 + 1)) (wrap64 (x8 + 1))) else (none))) else (some (([] : List (S46)), wrap64 (x6 + 1), 5)))) else (none)) else (none)) else (none)) else (stockaderef18_Parse.l0 k x0 x5 x6 x7 (wrap64 (x8 + 1)))) else (none)) else (if x7 < (x0.size : Int) then (some (([] : List (S46)), wrap64 (x6 + 1), 5)) else (some (x5, 0, 0)))
def stockaderef18_Parse.f (k : Nat) (a0 : ByteArray) : Option ((List (S46)) × Int × Int) := if (a0.size : Int) > 65536 then (some (([] : List (S46)), 0, 3)) else (stockaderef18_Parse.l0 k a0 ([] : List (S46)) 0 0 0)
theorem stockaderef18_Parse.mono_l : ∀ k, (∀ y0 y1 y2 y3 y4, LeO (stockaderef18_Parse.l0 k y0 y1 y2 y3 y4) (stockaderef18_Parse.l0 (k + 1) y0 y1 y2 y3 y4))
 | 0 => fun _ _ _ _ _ r h => by simp [stockaderef18_Parse.l0] at h
 | k + 1 => by
  have ih0 := stockaderef18_Parse.mono_l k
  ·intro y0 y1 y2 y3 y4
   unfold stockaderef18_Parse.l0
   repeat' first
   | (with_reducible exact ih0 _ _ _ _ _)
   | (with_reducible exact stockaderef18_Read.mono _ _)
   | (with_reducible exact LeO.refl _)
   | (with_reducible exact LeO.none _)
   | (with_reducible refine LeO.ite ?_ ?_)
   | (with_reducible refine LeO.bind ?_ (fun _ => ?_))
   | exact ih0 _ _ _ _ _
   | exact stockaderef18_Read.mono _ _
   | exact LeO.none _
   | refine LeO.ite ?_ ?_
   | refine LeO.bind ?_ (fun _ => ?_)
theorem stockaderef18_Parse.mono : ∀ a0 k, LeO (stockaderef18_Parse.f k a0) (stockaderef18_Parse.f (k + 1) a0) := by
 intro a0 k
 have ih0 := stockaderef18_Parse.mono_l k
 unfold stockaderef18_Parse.f
 repeat' first
   | (with_reducible exact ih0 _ _ _ _ _)
   | (with_reducible exact stockaderef18_Read.mono _ _)
   | (with_reducible exact LeO.refl _)
   | (with_reducible exact LeO.none _)
   | (with_reducible refine LeO.ite ?_ ?_)
   | (with_reducible refine LeO.bind ?_ (fun _ => ?_))
   | exact ih0 _ _ _ _ _
   | exact stockaderef18_Read.mono _ _
   | exact LeO.none _
   | refine LeO.ite ?_ ?_
   | refine LeO.bind ?_ (fun _ => ?_)
set_option maxHeartbeats 8000000 in
set_option maxRecDepth 100000 in
theorem stockaderef18_Parse.calls (k : Nat) (a0 : ByteArray) (r1 : List (S46)) (r2 : Int) (r3 : Int) (w : World) (h : stockaderef18_Parse.f k a0 = some (r1, r2, r3)) :
  Calls Tryd.prog 23 #[.string a0] w fun e w' => ∃ v0_ : Value, e = .returned (.tuple #[v0_, .int .i64 r2, .int .i64 r3]) ∧ Kd.S k46 46 w' w.heap.size (fun _ => True) v0_ r1 ∧ Below w.heap.size w w' := by
 have hu46 := Tryd.underlying46
 have HB := Aside0.mk (Below.refl w.heap.size w)
 have H : (if (a0.size : Int) > 65536 then (some (([] : List (S46)), 0, 3)) else (stockaderef18_Parse.l0 k a0 ([] : List (S46)) 0 0 0)) = some (r1, r2, r3) := h
 clear h
 by_cases c2 : (a0.size : Int) > 65536
 ·rw [if_pos c2] at H
  have c2b0 : decide (65536 < (a0.size : Int)) = true := decide_eq_true c2
  have c2b1 : decide (65536 < a0.size) = true := decide_eq_true (by omega)
  clear c2
  simp only [Option.some.injEq, Prod.mk.injEq] at H
  obtain ⟨rfl, rfl, rfl⟩ := H
  go_enter Tryd.func23, Tryd.ntmps23
  go_wp2
  go_ret3
  exact ⟨_, ret_now, by first | exact Kd.S_nil _ _ _ _ _ | exact Kd.N_nil _ _ _ _ _ | exact Kd.V_nil _ _ _ _ _ | exact Kd.Q_nil _ _ _ _ _ | exact Kd.R_nil _ _ _ _ _, b_now⟩
 ·rw [if_neg c2] at H
  have c2b0 : decide (65536 < (a0.size : Int)) = false := decide_eq_false c2
  have c2b1 : decide (65536 < a0.size) = false := decide_eq_false (by omega)
  clear c2
  have H' := Aside0.mk H
  clear H
  go_enter Tryd.func23, Tryd.ntmps23
  go_wp2
  go_loopg [5, 6, 7, 8] k (fun kq v5 v6 v7 v8 w' => ∃ (x5_1 : List (S46)) (x6_1 : Int) (x7_1 : Int) (x8_1 : Int), v6 = .int .i64 x6_1 ∧ v7 = .int .i64 x7_1 ∧ v8 = .int .i64 x8_1 ∧ Aside0 (stockaderef18_Parse.l0 kq a0 x5_1 x6_1 x7_1 x8_1 = some (r1, r2, r3)) ∧ Aside0 (kq ≤ k) ∧ Aside0 (Kd.S k46 46 w' w.heap.size (fun _ => True) v5 x5_1) ∧ Aside0 (Below w.heap.size w w'))
  case atStart => exact ⟨(([] : List (S46))), (0), (0), (0), eq_now, eq_now, eq_now, H', ⟨Nat.le_refl _⟩, ⟨by first | exact Kd.S_nil _ _ _ _ _ | exact Kd.N_nil _ _ _ _ _ | exact Kd.V_nil _ _ _ _ _ | exact Kd.Q_nil _ _ _ _ _ | exact Kd.R_nil _ _ _ _ _⟩, ⟨b_now⟩⟩
  case round =>
   clear H'
   clear c2b0 c2b1
   obtain ⟨x5_1, x6_1, x7_1, x8_1, rfl, rfl, rfl, HA, HK1, HO_5, HB⟩ := hrel
   cases gk with
   | zero => exact absurd HA.out (by simp [stockaderef18_Parse.l0])
   | succ k1 =>
    have H := HA.out
    clear HA
    simp only [stockaderef18_Parse.l0] at H
    by_cases c3 : x8_1 < (a0.size : Int)
    ·rw [if_pos c3] at H
     have c3b0 : decide (x8_1 < (a0.size : Int)) = true := decide_eq_true c3
     clear c3
     by_cases c4 : 0 ≤ x8_1
     ·rw [if_pos c4] at H
      have c4b0 : decide (0 ≤ x8_1) = true := decide_eq_true c4
      clear c4
      by_cases c6 : (bt a0 x8_1) = 10
      ·rw [if_pos c6] at H
       have c6b0 : ((bt a0 x8_1) == 10) = true := beq_iff_eq.mpr c6
       have c6b1 : ((bt a0 x8_1) != 10) = false := bne_eq_false_iff_eq.mpr c6
       clear c6
       by_cases c7 : 0 ≤ x7_1
       ·rw [if_pos c7] at H
        have c7b0 := eq_true c7
        have c7b1 : decide (0 ≤ x7_1) = true := decide_eq_true c7
        clear c7
        by_cases c8 : x7_1 ≤ x8_1
        ·rw [if_pos c8] at H
         have c8b0 := eq_true c8
         have c8b1 : decide (x7_1 ≤ x8_1) = true := decide_eq_true c8
         clear c8
         by_cases c9 : x8_1 ≤ (a0.size : Int)
         ·rw [if_pos c9] at H
          have c9b0 := eq_true c9
          have c9b1 : decide (x8_1 ≤ (a0.size : Int)) = true := decide_eq_true c9
          clear c9
          replace H := Option.bind_eq_some_iff.mp H; obtain ⟨⟨t510, t513, t514⟩, A100, H⟩ := H; try dsimp only at H
          have A10 := Aside0.mk A100
          clear A100
          by_cases c11 : t514 = true
          ·subst c11
           replace H := sh_t H
           by_cases c12 : (wrap64 (x6_1 + 1)) > 32
           ·rw [if_pos c12] at H
            have c12b0 : decide (32 < (wrap64 (x6_1 + 1))) = true := decide_eq_true c12
            clear c12
            simp only [Option.some.injEq, Prod.mk.injEq] at H
            obtain ⟨rfl, rfl, rfl⟩ := H
            have p5 : 0 ≤ (x8_1 : Int) := of_decide_eq_true (by first | (with_reducible assumption) | assumption)
            have q5 : x8_1 < (a0.size : Int) := of_decide_eq_true (by first | (with_reducible assumption) | assumption)
            have hx5 := bt_at a0 x8_1
            replace p5 := eq_true p5
            replace q5 := eq_true q5
            go_wp2_with (first | ((with_reducible refine gate_callee (f := 39) rfl ?_); refine sh_call (some 31) Tryd.func39 #[.string (a0.extract (x7_1 : Int).toNat (x8_1 : Int).toNat)] ?_; (with_reducible refine (stockaderef18_Read.calls k1 (a0.extract (x7_1 : Int).toNat (x8_1 : Int).toNat) t510 t513 true _ A10.out).mono ?_); rintro e w13 ⟨v511, rfl, ho0, hb⟩; refine ⟨_, rfl, ?_⟩; have HO512 := Aside0.mk (Kd.R_lower ho0 (below_size b_now)); replace HO_5 := Aside0.mk (Kd.S_elder' (by (with_reducible repeat (first | apply Kd.S_alloc | apply Kd.S_drewN | apply Kd.S_drew)); exact HO_5.out) (Kd.R_base ho0) hb); replace HB := sh_b (w := w) hb; (try clear hb); (try clear hb2); (try clear hk); (try clear hi); (try clear ho0)) | ((with_reducible refine gate_dst (N := 9) rfl ?_); refine sh_box 9 #[.slice none 0 0, .int .u32 0] 46 ?_; intro gb515 hg w14 hbox hb; have GE515 := sh_z (w := w) hg; replace HO_5 := Aside0.mk (Kd.S_below (Kd.S_elderB (by (with_reducible repeat (first | apply Kd.S_alloc | apply Kd.S_drewN | apply Kd.S_drew)); exact HO_5.out) gb515 (Nat.le_of_eq hg.symm)) hb); replace HO512 := Aside0.mk (Kd.R_below (by (with_reducible repeat (first | apply Kd.R_alloc | apply Kd.R_drewN | apply Kd.R_drew)); exact HO512.out) hb); replace HB := sh_b (w := w) hb; have BK515 := Aside0.mk (hbox); clear hb hbox hg; obtain ⟨Ao15, co15, eo15⟩ := Kd.R_slice HO512.out; subst eo15; have hcz16 := blk_all2 BK515.out))
            go_ret3
            exact ⟨_, ret_now, by first | exact Kd.S_nil _ _ _ _ _ | exact Kd.N_nil _ _ _ _ _ | exact Kd.V_nil _ _ _ _ _ | exact Kd.Q_nil _ _ _ _ _ | exact Kd.R_nil _ _ _ _ _, b_now⟩
           ·rw [if_neg c12] at H
            have c12b0 : decide (32 < (wrap64 (x6_1 + 1))) = false := decide_eq_false c12
            clear c12
            by_cases c17 : x5_1.length < 4398046511104
            ·rw [if_pos c17] at H
             have LMc17 := Aside0.mk c17
             clear c17
             obtain ⟨y516, hy516⟩ : ∃ y_ : List (S46), y_ = (x5_1 ++ [(⟨t510, t513⟩ : S46)]) := ⟨_, rfl⟩
             replace H : (stockaderef18_Parse.l0 k1 a0 y516 (wrap64 (x6_1 + 1)) (wrap64 (x8_1 + 1)) (wrap64 (x8_1 + 1))) = some (r1, r2, r3) := by first | (rw [hy516]; with_reducible exact H) | (have H2_ := (Option.bind_some _ _).symm.trans H; rw [hy516]; with_reducible exact H2_) | (have H2_ := (Option.bind_some _ _).symm.trans H; with_reducible exact H2_) | with_reducible exact H | (rw [hy516]; exact H) | exact H
             have Ny516 := Aside0.mk hy516
             clear hy516
             have H' := Aside0.mk H
             clear H
             have p5 : 0 ≤ (x8_1 : Int) := of_decide_eq_true (by first | (with_reducible assumption) | assumption)
             have q5 : x8_1 < (a0.size : Int) := of_decide_eq_true (by first | (with_reducible assumption) | assumption)
             have hx5 := bt_at a0 x8_1
             replace p5 := eq_true p5
             replace q5 := eq_true q5
             go_wp2_with (first | ((with_reducible refine gate_callee (f := 39) rfl ?_); refine sh_call (some 31) Tryd.func39 #[.string (a0.extract (x7_1 : Int).toNat (x8_1 : Int).toNat)] ?_; (with_reducible refine (stockaderef18_Read.calls k1 (a0.extract (x7_1 : Int).toNat (x8_1 : Int).toNat) t510 t513 true _ A10.out).mono ?_); rintro e w18 ⟨v511, rfl, ho0, hb⟩; refine ⟨_, rfl, ?_⟩; have HO512 := Aside0.mk (Kd.R_lower ho0 (below_size b_now)); replace HO_5 := Aside0.mk (Kd.S_elder' (by (with_reducible repeat (first | apply Kd.S_alloc | apply Kd.S_drewN | apply Kd.S_drew)); exact HO_5.out) (Kd.R_base ho0) hb); replace HB := sh_b (w := w) hb; (try clear hb); (try clear hb2); (try clear hk); (try clear hi); (try clear ho0)) | ((with_reducible refine gate_dst (N := 9) rfl ?_); refine sh_box 9 #[.slice none 0 0, .int .u32 0] 46 ?_; intro gb515 hg w19 hbox hb; have GE515 := sh_z (w := w) hg; replace HO_5 := Aside0.mk (Kd.S_below (Kd.S_elderB (by (with_reducible repeat (first | apply Kd.S_alloc | apply Kd.S_drewN | apply Kd.S_drew)); exact HO_5.out) gb515 (Nat.le_of_eq hg.symm)) hb); replace HO512 := Aside0.mk (Kd.R_below (by (with_reducible repeat (first | apply Kd.R_alloc | apply Kd.R_drewN | apply Kd.R_drew)); exact HO512.out) hb); replace HB := sh_b (w := w) hb; have BK515 := Aside0.mk (hbox); clear hb hbox hg; obtain ⟨Ao20, co20, eo20⟩ := Kd.R_slice HO512.out; subst eo20; have hcz21 := blk_all2 BK515.out) | ((with_reducible refine gate_store (t := 46) (p := 9) rfl ?_); refine store_event (t := 46) (p := 9) (v := ?vo_w22) (w1 := ((w19.setCell ⟨gb515, 0, none⟩ (.slice Ao20 t510.length co20)).setCell ⟨gb515, 1, none⟩ (.int .u32 t513))) ?hg ?ho ?hn ?hr ?_; (case ho => rfl); (case hg => rfl); (case hn => rfl); (case hr => first | (go_simp; done) | (go_simp; rfl)); intro w22 hw; have n0_ : Aside0 (Kd.S k46 46 w22 w.heap.size (fun k_ => some k_ ≠ (.slice Ao20 t510.length co20 : Value).ownBlock ∧ k_ ≠ gb515) u5 x5_1) := ⟨(by rw [hw]; exact (by (with_reducible repeat (first | apply Kd.S_alloc | apply Kd.S_drewN | apply Kd.S_drew)); exact Kd.S_mono (Kd.S_far (p := ⟨gb515, 1, none⟩) (Kd.S_far (p := ⟨gb515, 0, none⟩) (Kd.S_mono HO_5.out (fun k_ hk => (⟨hk, hk.2⟩ : _ ∧ k_ ≠ gb515))) (fun _ hk => hk.2) (.slice Ao20 t510.length co20)) (fun _ hk => hk.2) (.int .u32 t513)) (fun _ hk => ⟨hk.1.1.2, hk.1.2⟩)))⟩; have n1_ : Aside0 (Kd.R k55 55 w22 w.heap.size (fun _ => True) (.slice Ao20 t510.length co20) t510) := ⟨(by rw [hw]; exact (by (with_reducible repeat (first | apply Kd.R_alloc | apply Kd.R_drewN | apply Kd.R_drew)); exact Kd.R_mono (Kd.R_far (p := ⟨gb515, 1, none⟩) (Kd.R_far (p := ⟨gb515, 0, none⟩) (Kd.R_types HO512.out BK515.out (by decide)) (fun _ hk => hk.2) (.slice Ao20 t510.length co20)) (fun _ hk => hk.2) (.int .u32 t513)) (fun _ hk => trivial)))⟩; have n2_ : Aside0 (w22.heap[gb515]? = some (.cells #[.slice Ao20 t510.length co20, .int .u32 t513] 46 (0, 0))) := ⟨(by rw [hw]; exact bk_now)⟩; have n3_ : Aside0 (Below w.heap.size w w22) := ⟨(by rw [hw]; exact b_now)⟩; clear hw; clear HO_5; clear HO512; clear BK515; clear HB; have HO_5 := n0_; have HO512 := n1_; have BK515 := n2_; have HB := n3_; clear n0_ n1_ n2_ n3_; have hcz23 := blk_all2 BK515.out) | ((with_reducible refine gate_builtin (b := .append) (xs := #[.tmp 40, .tmp 42]) rfl ?_); at_builtin; refine Kd.S_append k46 (w0 := w) w.heap.size rfl (.tmp 40) (.tmp 42) 22 46 (.agg #[(.slice none 0 0), (.int .u32 0)]) 32 rfl Tryd.underlying22 info46 rfl (by decide) (by omega) u5 x5_1 (⟨t510, t513⟩ : S46) [.slice Ao20 t510.length co20, .int .u32 t513] (fun k_ => k_ ≠ gb515) (fun k_ => some k_ = (.slice Ao20 t510.length co20 : Value).ownBlock) rfl rfl ?aP (fun k_ hk_ => ((Kd.R_mono (ok' := fun k_ => ((fun k_ => k_ ≠ gb515)) k_ ∧ some k_ ≠ (u5 : Value).ownBlock) (Kd.R_types (Kd.R_apart' (HO512.out) (Kd.S_typed HO_5.out) (by decide)) BK515.out (by decide)) (fun k_ hk => ⟨hk.2, hk.1.2⟩))).1 k_ hk_.symm) ?aF ?aO ?aB ?aS ?aL ?_; (case aP => exact k46_mkM _ _ _ (⟨t510, t513⟩ : S46) (Kd.R_mono (Kd.R_tight rfl (Kd.R_mono (ok' := fun k_ => ((fun k_ => k_ ≠ gb515)) k_ ∧ some k_ ≠ (u5 : Value).ownBlock) (Kd.R_types (Kd.R_apart' (HO512.out) (Kd.S_typed HO_5.out) (by decide)) BK515.out (by decide)) (fun k_ hk => ⟨hk.2, hk.1.2⟩))) (fun _ h_ => h_))); (case aB => exact b_now); (case aF => exact (fun k_ hk => Kd.freshB (g := gb515) (o := .cells #[.slice Ao20 t510.length co20, .int .u32 t513] 46 (0, 0)) bk_now k_ hk)); (case aO => exact (by (with_reducible repeat (first | apply Kd.S_alloc | apply Kd.S_drewN | apply Kd.S_drew)); exact Kd.S_mono HO_5.out (fun k_ hk => ⟨hk.2, fun e_ => hk.1 e_⟩))); (case aS => exact (below_size b_now)); (case aL => have := LMc17.out; omega); intro v517 w24 ho hb hg hat; rw [← Ny516.out] at ho; have n0_ := Aside0.mk (blk_grown (g := gb515) (o := .cells #[.slice Ao20 t510.length co20, .int .u32 t513] 46 (0, 0)) bk_now hg (Kd.S_away HO_5.out (fun _ hk => hk.2))); have n1_ := Aside0.mk (hb); have n2_ := Aside0.mk (ho); clear BK515; clear HB; clear HO_5; clear HO512; have BK515 := n0_; have HB := n1_; have HO518 := n2_; clear n0_ n1_ n2_; clear ho hb hg hat))
             go_roundg k1
             case measure => have := HK1.out; omega
             case rel => exact ⟨(y516), (wrap64 (x6_1 + 1)), (wrap64 (x8_1 + 1)), (wrap64 (x8_1 + 1)), eq_now, eq_now, eq_now, H', ⟨by have := HK1.out; omega⟩, ⟨by (with_reducible repeat (first | apply Kd.S_alloc | apply Kd.S_drewN | apply Kd.S_drew)); exact Kd.S_mono HO518.out (fun _ hk => trivial)⟩, ⟨b_now⟩⟩
            ·rw [if_neg c17] at H
             exact absurd H (by simp)
          ·replace c11 := Bool.eq_false_iff.mpr c11
           subst c11
           replace H := sh_f H
           simp only [Option.some.injEq, Prod.mk.injEq] at H
           obtain ⟨rfl, rfl, rfl⟩ := H
           have p5 : 0 ≤ (x8_1 : Int) := of_decide_eq_true (by first | (with_reducible assumption) | assumption)
           have q5 : x8_1 < (a0.size : Int) := of_decide_eq_true (by first | (with_reducible assumption) | assumption)
           have hx5 := bt_at a0 x8_1
           replace p5 := eq_true p5
           replace q5 := eq_true q5
           go_wp2_with (first | ((with_reducible refine gate_callee (f := 39) rfl ?_); refine sh_call (some 31) Tryd.func39 #[.string (a0.extract (x7_1 : Int).toNat (x8_1 : Int).toNat)] ?_; (with_reducible refine (stockaderef18_Read.calls k1 (a0.extract (x7_1 : Int).toNat (x8_1 : Int).toNat) t510 t513 false _ A10.out).mono ?_); rintro e w25 ⟨v511, rfl, ho0, hb⟩; refine ⟨_, rfl, ?_⟩; have HO512 := Aside0.mk (Kd.R_lower ho0 (below_size b_now)); replace HO_5 := Aside0.mk (Kd.S_elder' (by (with_reducible repeat (first | apply Kd.S_alloc | apply Kd.S_drewN | apply Kd.S_drew)); exact HO_5.out) (Kd.R_base ho0) hb); replace HB := sh_b (w := w) hb; (try clear hb); (try clear hb2); (try clear hk); (try clear hi); (try clear ho0)) | ((with_reducible refine gate_dst (N := 9) rfl ?_); refine sh_box 9 #[.slice none 0 0, .int .u32 0] 46 ?_; intro gb515 hg w26 hbox hb; have GE515 := sh_z (w := w) hg; replace HO_5 := Aside0.mk (Kd.S_below (Kd.S_elderB (by (with_reducible repeat (first | apply Kd.S_alloc | apply Kd.S_drewN | apply Kd.S_drew)); exact HO_5.out) gb515 (Nat.le_of_eq hg.symm)) hb); replace HO512 := Aside0.mk (Kd.R_below (by (with_reducible repeat (first | apply Kd.R_alloc | apply Kd.R_drewN | apply Kd.R_drew)); exact HO512.out) hb); replace HB := sh_b (w := w) hb; have BK515 := Aside0.mk (hbox); clear hb hbox hg; obtain ⟨Ao27, co27, eo27⟩ := Kd.R_slice HO512.out; subst eo27; have hcz28 := blk_all2 BK515.out))
           go_ret3
           exact ⟨_, ret_now, by first | exact Kd.S_nil _ _ _ _ _ | exact Kd.N_nil _ _ _ _ _ | exact Kd.V_nil _ _ _ _ _ | exact Kd.Q_nil _ _ _ _ _ | exact Kd.R_nil _ _ _ _ _, b_now⟩
         ·rw [if_neg c9] at H
          exact absurd H (by simp)
        ·rw [if_neg c8] at H
         exact absurd H (by simp)
       ·rw [if_neg c7] at H
        exact absurd H (by simp)
      ·rw [if_neg c6] at H
       have c6b0 : ((bt a0 x8_1) == 10) = false := beq_eq_false_iff_ne.mpr c6
       have c6b1 : ((bt a0 x8_1) != 10) = true := bne_iff_ne.mpr c6
       have H' := Aside0.mk H
       clear H
       have p5 : 0 ≤ (x8_1 : Int) := of_decide_eq_true (by first | (with_reducible assumption) | assumption)
       have q5 : x8_1 < (a0.size : Int) := of_decide_eq_true (by first | (with_reducible assumption) | assumption)
       have hx5 := bt_at a0 x8_1
       replace p5 := eq_true p5
       replace q5 := eq_true q5
       go_wp2
       go_roundg k1
       case measure => have := HK1.out; omega
       case rel => exact ⟨(x5_1), (x6_1), (x7_1), (wrap64 (x8_1 + 1)), eq_now, eq_now, eq_now, H', ⟨by have := HK1.out; omega⟩, ⟨by (with_reducible repeat (first | apply Kd.S_alloc | apply Kd.S_drewN | apply Kd.S_drew)); exact HO_5.out⟩, ⟨b_now⟩⟩
     ·rw [if_neg c4] at H
      exact absurd H (by simp)
    ·rw [if_neg c3] at H
     have c3b0 : decide (x8_1 < (a0.size : Int)) = false := decide_eq_false c3
     clear c3
     by_cases c29 : x7_1 < (a0.size : Int)
     ·rw [if_pos c29] at H
      have c29b0 : decide (x7_1 < (a0.size : Int)) = true := decide_eq_true c29
      clear c29
      simp only [Option.some.injEq, Prod.mk.injEq] at H
      obtain ⟨rfl, rfl, rfl⟩ := H
      go_wp2
      go_ret3
      exact ⟨_, ret_now, by first | exact Kd.S_nil _ _ _ _ _ | exact Kd.N_nil _ _ _ _ _ | exact Kd.V_nil _ _ _ _ _ | exact Kd.Q_nil _ _ _ _ _ | exact Kd.R_nil _ _ _ _ _, b_now⟩
     ·rw [if_neg c29] at H
      have c29b0 : decide (x7_1 < (a0.size : Int)) = false := decide_eq_false c29
      clear c29
      simp only [Option.some.injEq, Prod.mk.injEq] at H
      obtain ⟨rfl, rfl, rfl⟩ := H
      go_wp2
      go_ret3
      exact ⟨_, ret_now, by (with_reducible repeat (first | apply Kd.S_alloc | apply Kd.S_drewN | apply Kd.S_drew)); exact HO_5.out, b_now⟩

/-! ### stockadelaw18_RuleParses: function 5 -/
def stockadelaw18_RuleParses.f (k : Nat) (a0 : ByteArray) : Option (Bool) := if (a0.size : Int) > 6000 then ((stockadelaw18_wakes.f k).bind fun t519 => (some t519)) else ((rule_Parse.f k a0).bind fun bt520 => ((stockaderef18_Parse.f k a0).bind fun bt525 => ((stockadelaw18_Is.f k bt520.1 bt525.1).bind fun t530 => (if t530 = true then (if bt520.2.1 = bt525.2.1 then (if bt520.2.2 = bt525.2.2 then ((stockadelaw18_wakes.f k).bind fun t531 => (some t531)) else (some false)) else (some false)) else (some false)))))
theorem stockadelaw18_RuleParses.mono : ∀ a0 k, LeO (stockadelaw18_RuleParses.f k a0) (stockadelaw18_RuleParses.f (k + 1) a0) := by
 intro a0 k
 unfold stockadelaw18_RuleParses.f
 repeat' first
   | (with_reducible exact rule_Parse.mono _ _)
   | (with_reducible exact stockadelaw18_Is.mono _ _ _)
   | (with_reducible exact stockadelaw18_wakes.mono _)
   | (with_reducible exact stockaderef18_Parse.mono _ _)
   | (with_reducible exact LeO.refl _)
   | (with_reducible exact LeO.none _)
   | (with_reducible refine LeO.ite ?_ ?_)
   | (with_reducible refine LeO.bind ?_ (fun _ => ?_))
   | exact rule_Parse.mono _ _
   | exact stockadelaw18_Is.mono _ _ _
   | exact stockadelaw18_wakes.mono _
   | exact stockaderef18_Parse.mono _ _
   | exact LeO.none _
   | refine LeO.ite ?_ ?_
   | refine LeO.bind ?_ (fun _ => ?_)
set_option maxHeartbeats 8000000 in
set_option maxRecDepth 100000 in
theorem stockadelaw18_RuleParses.calls (k : Nat) (a0 : ByteArray) (r : Bool) (w : World) (hrG0 : Kd.C kGF w (some ⟨0, 0, none⟩) gl0.length gl0) (hr_ : r = true) (h : stockadelaw18_RuleParses.f k a0 = some r) :
  Calls Tryd.prog 5 #[.string a0] w fun e w' => e = .returned (.bool r) ∧ Below w.heap.size w w' := by
 have HRG0 := Aside0.mk hrG0
 clear hrG0
 have HRT := Aside0.mk hr_
 clear hr_
 have HB := Aside0.mk (Below.refl w.heap.size w)
 have H : (if (a0.size : Int) > 6000 then ((stockadelaw18_wakes.f k).bind fun t519 => (some t519)) else ((rule_Parse.f k a0).bind fun bt520 => ((stockaderef18_Parse.f k a0).bind fun bt525 => ((stockadelaw18_Is.f k bt520.1 bt525.1).bind fun t530 => (if t530 = true then (if bt520.2.1 = bt525.2.1 then (if bt520.2.2 = bt525.2.2 then ((stockadelaw18_wakes.f k).bind fun t531 => (some t531)) else (some false)) else (some false)) else (some false)))))) = some r := h
 clear h
 by_cases c2 : (a0.size : Int) > 6000
 ·rw [if_pos c2] at H
  have c2b0 : decide (6000 < (a0.size : Int)) = true := decide_eq_true c2
  have c2b1 : decide (6000 < a0.size) = true := decide_eq_true (by omega)
  clear c2
  replace H := Option.bind_eq_some_iff.mp H; obtain ⟨t519, A30, H⟩ := H; try dsimp only at H
  have A3 := Aside0.mk A30
  clear A30
  obtain rfl := Option.some.inj H
  go_enter Tryd.func5, Tryd.ntmps5
  go_wp2_with (first | ((with_reducible refine gate_callee (f := 11) rfl ?_); refine sh_call (some 12) Tryd.func11 #[] ?_; (with_reducible refine (stockadelaw18_wakes.calls k  t519 _ ?side1 (by first | rfl | exact HRT.out) A3.out).mono ?_); (case side1 => repeat (first | exact HRG0.out | (with_reducible refine Kd.C_alloc ?_ _) | (with_reducible refine Kd.C_drewN ?_ _) | (with_reducible refine Kd.C_drew ?_))); rintro e w4 ⟨rfl, hb⟩; refine ⟨_, rfl, ?_⟩; replace HB := sh_b (w := w) hb; (try clear hb); (try clear hb2); (try clear hk); (try clear hi)))
  go_ret
  exact ⟨ret_now, b_now⟩
 ·rw [if_neg c2] at H
  have c2b0 : decide (6000 < (a0.size : Int)) = false := decide_eq_false c2
  have c2b1 : decide (6000 < a0.size) = false := decide_eq_false (by omega)
  clear c2
  replace H := Option.bind_eq_some_iff.mp H; obtain ⟨⟨t520, t521, t522⟩, A50, H⟩ := H; try dsimp only at H
  have A5 := Aside0.mk A50
  clear A50
  replace H := Option.bind_eq_some_iff.mp H; obtain ⟨⟨t525, t526, t527⟩, A60, H⟩ := H; try dsimp only at H
  have A6 := Aside0.mk A60
  clear A60
  replace H := Option.bind_eq_some_iff.mp H; obtain ⟨t530, A70, H⟩ := H; try dsimp only at H
  have A7 := Aside0.mk A70
  clear A70
  by_cases c8 : t530 = true
  ·subst c8
   replace H := sh_t H
   by_cases c9 : t521 = t526
   ·rw [if_pos c9] at H
    have c9b0 : (t521 == t526) = true := beq_iff_eq.mpr c9
    have c9b1 : (t521 != t526) = false := bne_eq_false_iff_eq.mpr c9
    clear c9
    by_cases c10 : t522 = t527
    ·rw [if_pos c10] at H
     have c10b0 : (t522 == t527) = true := beq_iff_eq.mpr c10
     have c10b1 : (t522 != t527) = false := bne_eq_false_iff_eq.mpr c10
     clear c10
     replace H := Option.bind_eq_some_iff.mp H; obtain ⟨t531, A110, H⟩ := H; try dsimp only at H
     have A11 := Aside0.mk A110
     clear A110
     obtain rfl := Option.some.inj H
     go_enter Tryd.func5, Tryd.ntmps5
     go_wp2_with (first | ((with_reducible refine gate_callee (f := 22) rfl ?_); refine sh_call (some 15) Tryd.func22 #[.string a0] ?_; (with_reducible refine (rule_Parse.calls k a0 t520 t521 t522 _ ?side1 A5.out).mono ?_); (case side1 => repeat (first | exact HRG0.out | (with_reducible refine Kd.C_alloc ?_ _) | (with_reducible refine Kd.C_drewN ?_ _) | (with_reducible refine Kd.C_drew ?_))); rintro e w12 ⟨v523, rfl, ho0, hb⟩; refine ⟨_, rfl, ?_⟩; have HO524 := Aside0.mk (Kd.S_lower ho0 (below_size b_now)); replace HB := sh_b (w := w) hb; (try clear hb); (try clear hb2); (try clear hk); (try clear hi); (try clear ho0)) | ((with_reducible refine gate_callee (f := 23) rfl ?_); refine sh_call (some 21) Tryd.func23 #[.string a0] ?_; (with_reducible refine (stockaderef18_Parse.calls k a0 t525 t526 t527 _ A6.out).mono ?_); rintro e w13 ⟨v528, rfl, ho0, hb⟩; refine ⟨_, rfl, ?_⟩; have HO529 := Aside0.mk (Kd.S_lower ho0 (below_size b_now)); replace HO524 := Aside0.mk (Kd.S_below (by (with_reducible repeat (first | apply Kd.S_alloc | apply Kd.S_drewN | apply Kd.S_drew)); exact HO524.out) hb); replace HB := sh_b (w := w) hb; (try clear hb); (try clear hb2); (try clear hk); (try clear hi); (try clear ho0); obtain ⟨Ao14, co14, eo14⟩ := Kd.S_slice HO524.out; subst eo14; obtain ⟨Ao15, co15, eo15⟩ := Kd.S_slice HO529.out; subst eo15) | ((with_reducible refine gate_callee (f := 17) rfl ?_); refine sh_call (some 27) Tryd.func17 #[.slice Ao14 t520.length co14, .slice Ao15 t525.length co15] ?_; (with_reducible refine (stockadelaw18_Is.calls k _ _ t520 _ _ t525 true _ ?side1 ?side2 ?side3 ?side4 A7.out).mono ?_); (case side1 => repeat (first | exact (Kd.S_reads' HO524.out).2.2 | (with_reducible refine Kd.C_alloc ?_ _) | (with_reducible refine Kd.C_drewN ?_ _) | (with_reducible refine Kd.C_drew ?_))); (case side2 => exact (Kd.S_reads' HO524.out).2.1); (case side3 => repeat (first | exact (Kd.S_reads' HO529.out).2.2 | (with_reducible refine Kd.C_alloc ?_ _) | (with_reducible refine Kd.C_drewN ?_ _) | (with_reducible refine Kd.C_drew ?_))); (case side4 => exact (Kd.S_reads' HO529.out).2.1); rintro e w16 ⟨rfl, hb⟩; refine ⟨_, rfl, ?_⟩; replace HO524 := Aside0.mk (Kd.S_below (by (with_reducible repeat (first | apply Kd.S_alloc | apply Kd.S_drewN | apply Kd.S_drew)); exact HO524.out) hb); replace HO529 := Aside0.mk (Kd.S_below (by (with_reducible repeat (first | apply Kd.S_alloc | apply Kd.S_drewN | apply Kd.S_drew)); exact HO529.out) hb); replace HB := sh_b (w := w) hb; (try clear hb); (try clear hb2); (try clear hk); (try clear hi)) | (go_at_call 11; (with_reducible refine (stockadelaw18_wakes.calls k  t531 _ ?side1 (by first | rfl | exact HRT.out) A11.out).mono ?_); (case side1 => repeat (first | exact (Kd.C_below HRG0.out HB.out) | (with_reducible refine Kd.C_alloc ?_ _) | (with_reducible refine Kd.C_drewN ?_ _) | (with_reducible refine Kd.C_drew ?_))); rintro e w17 ⟨rfl, hb⟩; replace HO524 := Aside0.mk (Kd.S_below (by (with_reducible repeat (first | apply Kd.S_alloc | apply Kd.S_drewN | apply Kd.S_drew)); exact HO524.out) hb); replace HO529 := Aside0.mk (Kd.S_below (by (with_reducible repeat (first | apply Kd.S_alloc | apply Kd.S_drewN | apply Kd.S_drew)); exact HO529.out) hb); replace HB := sh_b (w := w) hb; (try clear hb); (try clear hb2); (try clear hk); (try clear hi)))
     go_ret
     exact ⟨ret_now, b_now⟩
    ·rw [if_neg c10] at H
     have c10b0 : (t522 == t527) = false := beq_eq_false_iff_ne.mpr c10
     have c10b1 : (t522 != t527) = true := bne_iff_ne.mpr c10
     obtain rfl := Option.some.inj H
     exact absurd HRT.out (by simp)
   ·rw [if_neg c9] at H
    have c9b0 : (t521 == t526) = false := beq_eq_false_iff_ne.mpr c9
    have c9b1 : (t521 != t526) = true := bne_iff_ne.mpr c9
    obtain rfl := Option.some.inj H
    exact absurd HRT.out (by simp)
  ·replace c8 := Bool.eq_false_iff.mpr c8
   subst c8
   replace H := sh_f H
   obtain rfl := Option.some.inj H
   exact absurd HRT.out (by simp)

end Go.Proofs.YtighficpbplkhaaDoor.P
