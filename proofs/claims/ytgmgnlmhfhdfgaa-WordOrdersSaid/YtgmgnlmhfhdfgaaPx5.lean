/- Made by this session's driver over the kit's printer: for each Go function a Lean function with the same answers, and a proof that the Go call comes to these answers; no conditions but the ones each theorem names. -/
import Derived.Test.YtgmgnlmhfhdfgaaPx0
import Derived.Test.YtgmgnlmhfhdfgaaPx1
import Derived.Test.YtgmgnlmhfhdfgaaPx2
import Derived.Test.YtgmgnlmhfhdfgaaPx3
import Derived.Test.YtgmgnlmhfhdfgaaPx4
namespace Go.Proofs.Ytgmgnlmhfhdfgaa.P
open Go.RowKit Go.Proofs.YtgmgnlmhfhdfgaaW.PrintWords Go.Proofs.YtgmgnlmhfhdfgaaW.PrintLast Go.Proofs.YtgmgnlmhfhdfgaaW.PrintMore
attribute [local go_sem] max2_int min2_int max_two min_two max_three min_three max_four min_four   -- for this text's walks alone
set_option linter.unusedVariables false
set_option linter.unusedSimpArgs false

/-! ### stockadelaw01_WordHalves: function 9 -/
mutual
def stockadelaw01_WordHalves.j0 : Nat → Int → Int → Int → Int → Int → Bool → Option (Bool)
 | 0, _, _, _, _, _, _ => none
 | k + 1, x7, x8, x9, x10, x11, x67 => if x67 = true then (some false) else (if x11 = 0 then (if x7 = 3 then (stockadelaw01_WordHalves.j1 k x7 x8 x9 x10 true) else (if x7 = 9 then (stockadelaw01_WordHalves.j1 k x7 x8 x9 x10 true) else (if x7 = 6 then (stockadelaw01_WordHalves.j1 k x7 x8 x9 x10 true) else (if x7 = 7 then (stockadelaw01_WordHalves.j1 k x7 x8 x9 x10 true) else (stockadelaw01_WordHalves.j1 k x7 x8 x9 x10 (x7 == 12)))))) else (stockadelaw01_WordHalves.j1 k x7 x8 x9 x10 true))
def stockadelaw01_WordHalves.j1 : Nat → Int → Int → Int → Int → Bool → Option (Bool)
 | 0, _, _, _, _, _ => none
 | k + 1, x7, x8, x9, x10, x89 => if x89 = true then (some true) else ((stockadelaw01_alu.f x7 true x8 x9).bind fun t258 => ((stockadelaw01_half.f t258).bind fun t259 => (some (x10 == t259))))
end
def stockadelaw01_WordHalves.f (k : Nat) (a0_0 : Int) (a0_1 : Bool) (a0_2 : Int) (a0_3 : Int) (a1 : Int) (a2 : Int) : Option (Bool) := (stockadelaw01_awake.f k).bind fun t251 => (if t251 = true then ((word_Alu.f a0_0 false a0_2 a0_3).bind fun bt252 => ((stockadelaw01_half.f a0_2).bind fun t254 => ((stockadelaw01_half.f a0_3).bind fun t255 => ((word_Alu.f a0_0 false (Go.bits .or .u64 t254 (IntKind.u64.wrap (a1 * 4294967296))) (Go.bits .or .u64 t255 (IntKind.u64.wrap (a2 * 4294967296)))).bind fun bt256 => (if bt252.1 = bt256.1 then (if bt252.2 = bt256.2 then (if bt252.1 ≥ 4294967296 then (stockadelaw01_WordHalves.j0 k a0_0 a0_2 a0_3 bt252.1 bt252.2 true) else (if bt252.2 = 0 then (stockadelaw01_WordHalves.j0 k a0_0 a0_2 a0_3 bt252.1 bt252.2 false) else (if bt252.2 = 20 then (stockadelaw01_WordHalves.j0 k a0_0 a0_2 a0_3 bt252.1 bt252.2 (bt252.1 != 0)) else (stockadelaw01_WordHalves.j0 k a0_0 a0_2 a0_3 bt252.1 bt252.2 true)))) else (stockadelaw01_WordHalves.j0 k a0_0 a0_2 a0_3 bt252.1 bt252.2 true)) else (stockadelaw01_WordHalves.j0 k a0_0 a0_2 a0_3 bt252.1 bt252.2 true)))))) else (some false))
theorem stockadelaw01_WordHalves.mono_l : ∀ k, (∀ y0 y1 y2 y3 y4 y5, LeO (stockadelaw01_WordHalves.j0 k y0 y1 y2 y3 y4 y5) (stockadelaw01_WordHalves.j0 (k + 1) y0 y1 y2 y3 y4 y5)) ∧ (∀ y0 y1 y2 y3 y4, LeO (stockadelaw01_WordHalves.j1 k y0 y1 y2 y3 y4) (stockadelaw01_WordHalves.j1 (k + 1) y0 y1 y2 y3 y4))
 | 0 => ⟨fun _ _ _ _ _ _ r h => by simp [stockadelaw01_WordHalves.j0] at h, fun _ _ _ _ _ r h => by simp [stockadelaw01_WordHalves.j1] at h⟩
 | k + 1 => by
  obtain ⟨ih0, ih1⟩ := stockadelaw01_WordHalves.mono_l k
  refine ⟨?_, ?_⟩
  ·intro y0 y1 y2 y3 y4 y5
   unfold stockadelaw01_WordHalves.j0
   repeat' first
   | (with_reducible exact ih0 _ _ _ _ _ _)
   | (with_reducible exact ih1 _ _ _ _ _)
   | (with_reducible exact stockadelaw01_awake.mono _)
   | (with_reducible exact LeO.refl _)
   | (with_reducible exact LeO.none _)
   | (with_reducible refine LeO.ite ?_ ?_)
   | (with_reducible refine LeO.bind ?_ (fun _ => ?_))
   | exact ih0 _ _ _ _ _ _
   | exact ih1 _ _ _ _ _
   | exact stockadelaw01_awake.mono _
   | exact LeO.none _
   | refine LeO.ite ?_ ?_
   | refine LeO.bind ?_ (fun _ => ?_)
  ·intro y0 y1 y2 y3 y4
   unfold stockadelaw01_WordHalves.j1
   repeat' first
   | (with_reducible exact ih0 _ _ _ _ _ _)
   | (with_reducible exact ih1 _ _ _ _ _)
   | (with_reducible exact stockadelaw01_awake.mono _)
   | (with_reducible exact LeO.refl _)
   | (with_reducible exact LeO.none _)
   | (with_reducible refine LeO.ite ?_ ?_)
   | (with_reducible refine LeO.bind ?_ (fun _ => ?_))
   | exact ih0 _ _ _ _ _ _
   | exact ih1 _ _ _ _ _
   | exact stockadelaw01_awake.mono _
   | exact LeO.none _
   | refine LeO.ite ?_ ?_
   | refine LeO.bind ?_ (fun _ => ?_)
theorem stockadelaw01_WordHalves.mono : ∀ a0 a1 a2 a3 a4 a5 k, LeO (stockadelaw01_WordHalves.f k a0 a1 a2 a3 a4 a5) (stockadelaw01_WordHalves.f (k + 1) a0 a1 a2 a3 a4 a5) := by
 intro a0 a1 a2 a3 a4 a5 k
 obtain ⟨ih0, ih1⟩ := stockadelaw01_WordHalves.mono_l k
 unfold stockadelaw01_WordHalves.f
 repeat' first
   | (with_reducible exact ih0 _ _ _ _ _ _)
   | (with_reducible exact ih1 _ _ _ _ _)
   | (with_reducible exact stockadelaw01_awake.mono _)
   | (with_reducible exact LeO.refl _)
   | (with_reducible exact LeO.none _)
   | (with_reducible refine LeO.ite ?_ ?_)
   | (with_reducible refine LeO.bind ?_ (fun _ => ?_))
   | exact ih0 _ _ _ _ _ _
   | exact ih1 _ _ _ _ _
   | exact stockadelaw01_awake.mono _
   | exact LeO.none _
   | refine LeO.ite ?_ ?_
   | refine LeO.bind ?_ (fun _ => ?_)
set_option maxHeartbeats 8000000 in
set_option maxRecDepth 100000 in
theorem stockadelaw01_WordHalves.calls (k : Nat) (a0_0 : Int) (a0_1 : Bool) (a0_2 : Int) (a0_3 : Int) (a1 : Int) (a2 : Int) (r : Bool) (w : World) (hr_ : r = true) (h : stockadelaw01_WordHalves.f k a0_0 a0_1 a0_2 a0_3 a1 a2 = some r) :
  Calls Try.prog 9 #[.agg #[.int .i64 a0_0, .bool a0_1, .int .u64 a0_2, .int .u64 a0_3], .int .u64 a1, .int .u64 a2] w fun e w' => e = .returned (.bool r) ∧ Below w.heap.size w w' := by
 have hu24 := Try.underlying24
 have HRT := Aside0.mk hr_
 clear hr_
 have HB := Aside0.mk (Below.refl w.heap.size w)
 have H : ((stockadelaw01_awake.f k).bind fun t251 => (if t251 = true then ((word_Alu.f a0_0 false a0_2 a0_3).bind fun bt252 => ((stockadelaw01_half.f a0_2).bind fun t254 => ((stockadelaw01_half.f a0_3).bind fun t255 => ((word_Alu.f a0_0 false (Go.bits .or .u64 t254 (IntKind.u64.wrap (a1 * 4294967296))) (Go.bits .or .u64 t255 (IntKind.u64.wrap (a2 * 4294967296)))).bind fun bt256 => (if bt252.1 = bt256.1 then (if bt252.2 = bt256.2 then (if bt252.1 ≥ 4294967296 then (stockadelaw01_WordHalves.j0 k a0_0 a0_2 a0_3 bt252.1 bt252.2 true) else (if bt252.2 = 0 then (stockadelaw01_WordHalves.j0 k a0_0 a0_2 a0_3 bt252.1 bt252.2 false) else (if bt252.2 = 20 then (stockadelaw01_WordHalves.j0 k a0_0 a0_2 a0_3 bt252.1 bt252.2 (bt252.1 != 0)) else (stockadelaw01_WordHalves.j0 k a0_0 a0_2 a0_3 bt252.1 bt252.2 true)))) else (stockadelaw01_WordHalves.j0 k a0_0 a0_2 a0_3 bt252.1 bt252.2 true)) else (stockadelaw01_WordHalves.j0 k a0_0 a0_2 a0_3 bt252.1 bt252.2 true)))))) else (some false))) = some r := h
 clear h
 replace H := Option.bind_eq_some_iff.mp H; obtain ⟨t251, A40, H⟩ := H; try dsimp only at H
 have A4 := Aside0.mk A40
 clear A40
 by_cases c5 : t251 = true
 ·subst c5
  replace H := sh_t H
  replace H := Option.bind_eq_some_iff.mp H; obtain ⟨⟨t252, t253⟩, A60, H⟩ := H; try dsimp only at H
  have A6 := Aside0.mk A60
  clear A60
  replace H := Option.bind_eq_some_iff.mp H; obtain ⟨t254, A70, H⟩ := H; try dsimp only at H
  have A7 := Aside0.mk A70
  clear A70
  replace H := Option.bind_eq_some_iff.mp H; obtain ⟨t255, A80, H⟩ := H; try dsimp only at H
  have A8 := Aside0.mk A80
  clear A80
  replace H := Option.bind_eq_some_iff.mp H; obtain ⟨⟨t256, t257⟩, A90, H⟩ := H; try dsimp only at H
  have A9 := Aside0.mk A90
  clear A90
  have HC10 := Aside0.mk H
  clear H
  go_enter Try.func9, Try.ntmps9
  go_upto_region 6 with (first | ((with_reducible refine gate_dst (N := 3) rfl ?_); refine sh_box 3 #[.int .i64 a0_0, .bool a0_1, .int .u64 a0_2, .int .u64 a0_3] 24 ?_; intro gb250 hg w11 hbox hb; have GE250 := sh_z (w := w) hg; replace HB := sh_b (w := w) hb; have BK250 := Aside0.mk (hbox); clear hb hbox hg; have hcz12 := blk_all4 BK250.out) | (go_at_call 15; (with_reducible refine (stockadelaw01_awake.calls k  true _ A4.out).mono ?_); rintro e w' ⟨rfl, ⟨nd, rfl⟩⟩; (try first | exact ⟨rfl, _, World.drewN_drewN _ _ _⟩ | exact ⟨rfl, _, Eq.trans (World.drewN_drewN _ _ _) (congrArg (World.drewN _) (Nat.add_assoc _ _ _))⟩)) | (go_at_call 13; (with_reducible refine (word_Alu.calls a0_0 false a0_2 a0_3 t252 t253 _ A6.out).mono ?_); rintro e w' ⟨rfl, ⟨nd, rfl⟩⟩; (try first | exact ⟨rfl, _, World.drewN_drewN _ _ _⟩ | exact ⟨rfl, _, Eq.trans (World.drewN_drewN _ _ _) (congrArg (World.drewN _) (Nat.add_assoc _ _ _))⟩)) | (go_at_call 25; (with_reducible refine (stockadelaw01_half.calls a0_2 t254 _ A7.out).mono ?_); rintro e w' ⟨rfl, ⟨nd, rfl⟩⟩; (try first | exact ⟨rfl, _, World.drewN_drewN _ _ _⟩ | exact ⟨rfl, _, Eq.trans (World.drewN_drewN _ _ _) (congrArg (World.drewN _) (Nat.add_assoc _ _ _))⟩)) | (go_at_call 25; (with_reducible refine (stockadelaw01_half.calls a0_3 t255 _ A8.out).mono ?_); rintro e w' ⟨rfl, ⟨nd, rfl⟩⟩; (try first | exact ⟨rfl, _, World.drewN_drewN _ _ _⟩ | exact ⟨rfl, _, Eq.trans (World.drewN_drewN _ _ _) (congrArg (World.drewN _) (Nat.add_assoc _ _ _))⟩)) | (go_at_call 13; (with_reducible refine (word_Alu.calls a0_0 false (Go.bits .or .u64 t254 (IntKind.u64.wrap (a1 * 4294967296))) (Go.bits .or .u64 t255 (IntKind.u64.wrap (a2 * 4294967296))) t256 t257 _ A9.out).mono ?_); rintro e w' ⟨rfl, ⟨nd, rfl⟩⟩; (try first | exact ⟨rfl, _, World.drewN_drewN _ _ _⟩ | exact ⟨rfl, _, Eq.trans (World.drewN_drewN _ _ _) (congrArg (World.drewN _) (Nat.add_assoc _ _ _))⟩)))
  repeat (go_quiet (first | ((with_reducible refine gate_dst (N := 3) rfl ?_); refine sh_box 3 #[.int .i64 a0_0, .bool a0_1, .int .u64 a0_2, .int .u64 a0_3] 24 ?_; intro gb250 hg w11 hbox hb; have GE250 := sh_z (w := w) hg; replace HB := sh_b (w := w) hb; have BK250 := Aside0.mk (hbox); clear hb hbox hg; have hcz12 := blk_all4 BK250.out) | (go_at_call 15; (with_reducible refine (stockadelaw01_awake.calls k  true _ A4.out).mono ?_); rintro e w' ⟨rfl, ⟨nd, rfl⟩⟩; (try first | exact ⟨rfl, _, World.drewN_drewN _ _ _⟩ | exact ⟨rfl, _, Eq.trans (World.drewN_drewN _ _ _) (congrArg (World.drewN _) (Nat.add_assoc _ _ _))⟩)) | (go_at_call 13; (with_reducible refine (word_Alu.calls a0_0 false a0_2 a0_3 t252 t253 _ A6.out).mono ?_); rintro e w' ⟨rfl, ⟨nd, rfl⟩⟩; (try first | exact ⟨rfl, _, World.drewN_drewN _ _ _⟩ | exact ⟨rfl, _, Eq.trans (World.drewN_drewN _ _ _) (congrArg (World.drewN _) (Nat.add_assoc _ _ _))⟩)) | (go_at_call 25; (with_reducible refine (stockadelaw01_half.calls a0_2 t254 _ A7.out).mono ?_); rintro e w' ⟨rfl, ⟨nd, rfl⟩⟩; (try first | exact ⟨rfl, _, World.drewN_drewN _ _ _⟩ | exact ⟨rfl, _, Eq.trans (World.drewN_drewN _ _ _) (congrArg (World.drewN _) (Nat.add_assoc _ _ _))⟩)) | (go_at_call 25; (with_reducible refine (stockadelaw01_half.calls a0_3 t255 _ A8.out).mono ?_); rintro e w' ⟨rfl, ⟨nd, rfl⟩⟩; (try first | exact ⟨rfl, _, World.drewN_drewN _ _ _⟩ | exact ⟨rfl, _, Eq.trans (World.drewN_drewN _ _ _) (congrArg (World.drewN _) (Nat.add_assoc _ _ _))⟩)) | (go_at_call 13; (with_reducible refine (word_Alu.calls a0_0 false (Go.bits .or .u64 t254 (IntKind.u64.wrap (a1 * 4294967296))) (Go.bits .or .u64 t255 (IntKind.u64.wrap (a2 * 4294967296))) t256 t257 _ A9.out).mono ?_); rintro e w' ⟨rfl, ⟨nd, rfl⟩⟩; (try first | exact ⟨rfl, _, World.drewN_drewN _ _ _⟩ | exact ⟨rfl, _, Eq.trans (World.drewN_drewN _ _ _) (congrArg (World.drewN _) (Nat.add_assoc _ _ _))⟩))); go_upto_region 6 with (first | ((with_reducible refine gate_dst (N := 3) rfl ?_); refine sh_box 3 #[.int .i64 a0_0, .bool a0_1, .int .u64 a0_2, .int .u64 a0_3] 24 ?_; intro gb250 hg w11 hbox hb; have GE250 := sh_z (w := w) hg; replace HB := sh_b (w := w) hb; have BK250 := Aside0.mk (hbox); clear hb hbox hg; have hcz12 := blk_all4 BK250.out) | (go_at_call 15; (with_reducible refine (stockadelaw01_awake.calls k  true _ A4.out).mono ?_); rintro e w' ⟨rfl, ⟨nd, rfl⟩⟩; (try first | exact ⟨rfl, _, World.drewN_drewN _ _ _⟩ | exact ⟨rfl, _, Eq.trans (World.drewN_drewN _ _ _) (congrArg (World.drewN _) (Nat.add_assoc _ _ _))⟩)) | (go_at_call 13; (with_reducible refine (word_Alu.calls a0_0 false a0_2 a0_3 t252 t253 _ A6.out).mono ?_); rintro e w' ⟨rfl, ⟨nd, rfl⟩⟩; (try first | exact ⟨rfl, _, World.drewN_drewN _ _ _⟩ | exact ⟨rfl, _, Eq.trans (World.drewN_drewN _ _ _) (congrArg (World.drewN _) (Nat.add_assoc _ _ _))⟩)) | (go_at_call 25; (with_reducible refine (stockadelaw01_half.calls a0_2 t254 _ A7.out).mono ?_); rintro e w' ⟨rfl, ⟨nd, rfl⟩⟩; (try first | exact ⟨rfl, _, World.drewN_drewN _ _ _⟩ | exact ⟨rfl, _, Eq.trans (World.drewN_drewN _ _ _) (congrArg (World.drewN _) (Nat.add_assoc _ _ _))⟩)) | (go_at_call 25; (with_reducible refine (stockadelaw01_half.calls a0_3 t255 _ A8.out).mono ?_); rintro e w' ⟨rfl, ⟨nd, rfl⟩⟩; (try first | exact ⟨rfl, _, World.drewN_drewN _ _ _⟩ | exact ⟨rfl, _, Eq.trans (World.drewN_drewN _ _ _) (congrArg (World.drewN _) (Nat.add_assoc _ _ _))⟩)) | (go_at_call 13; (with_reducible refine (word_Alu.calls a0_0 false (Go.bits .or .u64 t254 (IntKind.u64.wrap (a1 * 4294967296))) (Go.bits .or .u64 t255 (IntKind.u64.wrap (a2 * 4294967296))) t256 t257 _ A9.out).mono ?_); rintro e w' ⟨rfl, ⟨nd, rfl⟩⟩; (try first | exact ⟨rfl, _, World.drewN_drewN _ _ _⟩ | exact ⟨rfl, _, Eq.trans (World.drewN_drewN _ _ _) (congrArg (World.drewN _) (Nat.add_assoc _ _ _))⟩))))
  (try simp only [Act.put, List.setIfInBounds_toArray, List.set_cons_zero, List.set_cons_succ])
  go_cut [67] (fun v67 wc => ∃ (kq : Nat) (x67_9 : Bool), v67 = .bool x67_9 ∧ Aside0 (stockadelaw01_WordHalves.j0 kq a0_0 a0_2 a0_3 t252 t253 x67_9 = some r) ∧ Aside0 (kq ≤ k) ∧ Aside0 (wc.heap[gb250]? = some (.cells #[.int .i64 a0_0, .bool a0_1, .int .u64 a0_2, .int .u64 a0_3] 24 (0, 0))) ∧ Aside0 (Below w.heap.size w wc))
  case first =>
   have H := HC10.out
   clear HC10
   by_cases c13 : t252 = t256
   ·rw [if_pos c13] at H
    have c13b0 : (t252 == t256) = true := beq_iff_eq.mpr c13
    have c13b1 : (t252 != t256) = false := bne_eq_false_iff_eq.mpr c13
    clear c13
    (first | rw [c13b0] | (simp only [i64_w, i32_w]; rw [c13b0]) | skip)
    by_cases c14 : t253 = t257
    ·rw [if_pos c14] at H
     have c14b0 : (t253 == t257) = true := beq_iff_eq.mpr c14
     have c14b1 : (t253 != t257) = false := bne_eq_false_iff_eq.mpr c14
     clear c14
     by_cases c15 : t252 ≥ 4294967296
     ·rw [if_pos c15] at H
      have c15b0 : decide (4294967296 ≤ t252) = true := decide_eq_true c15
      clear c15
      have H' := Aside0.mk H
      clear H
      go_wp2
      repeat (go_quiet (fail); try go_wp2)
      go_meet
      case rel => exact ⟨_, (true), eq_now, H', ⟨by first | omega | exact Nat.le_refl _⟩, ⟨bk_now⟩, ⟨b_now⟩⟩
     ·rw [if_neg c15] at H
      have c15b0 : decide (4294967296 ≤ t252) = false := decide_eq_false c15
      clear c15
      by_cases c16 : t253 = 0
      ·rw [if_pos c16] at H
       have c16b0 : (t253 == 0) = true := beq_iff_eq.mpr c16
       have c16b1 : (t253 != 0) = false := bne_eq_false_iff_eq.mpr c16
       clear c16
       have H' := Aside0.mk H
       clear H
       go_wp2
       repeat (go_quiet (fail); try go_wp2)
       go_meet
       case rel => exact ⟨_, (false), eq_now, H', ⟨by first | omega | exact Nat.le_refl _⟩, ⟨bk_now⟩, ⟨b_now⟩⟩
      ·rw [if_neg c16] at H
       have c16b0 : (t253 == 0) = false := beq_eq_false_iff_ne.mpr c16
       have c16b1 : (t253 != 0) = true := bne_iff_ne.mpr c16
       by_cases c17 : t253 = 20
       ·rw [if_pos c17] at H
        have c17b0 : (t253 == 20) = true := beq_iff_eq.mpr c17
        have c17b1 : (t253 != 20) = false := bne_eq_false_iff_eq.mpr c17
        clear c17
        have H' := Aside0.mk H
        clear H
        go_wp2
        repeat (go_quiet (fail); try go_wp2)
        go_meet
        case rel => exact ⟨_, ((t252 != 0)), eq_now, H', ⟨by first | omega | exact Nat.le_refl _⟩, ⟨bk_now⟩, ⟨b_now⟩⟩
       ·rw [if_neg c17] at H
        have c17b0 : (t253 == 20) = false := beq_eq_false_iff_ne.mpr c17
        have c17b1 : (t253 != 20) = true := bne_iff_ne.mpr c17
        have H' := Aside0.mk H
        clear H
        go_wp2
        repeat (go_quiet (fail); try go_wp2)
        go_meet
        case rel => exact ⟨_, (true), eq_now, H', ⟨by first | omega | exact Nat.le_refl _⟩, ⟨bk_now⟩, ⟨b_now⟩⟩
    ·rw [if_neg c14] at H
     have c14b0 : (t253 == t257) = false := beq_eq_false_iff_ne.mpr c14
     have c14b1 : (t253 != t257) = true := bne_iff_ne.mpr c14
     have H' := Aside0.mk H
     clear H
     go_wp2
     repeat (go_quiet (fail); try go_wp2)
     go_meet
     case rel => exact ⟨_, (true), eq_now, H', ⟨by first | omega | exact Nat.le_refl _⟩, ⟨bk_now⟩, ⟨b_now⟩⟩
   ·rw [if_neg c13] at H
    have c13b0 : (t252 == t256) = false := beq_eq_false_iff_ne.mpr c13
    have c13b1 : (t252 != t256) = true := bne_iff_ne.mpr c13
    (first | rw [c13b0] | (simp only [i64_w, i32_w]; rw [c13b0]) | skip)
    have H' := Aside0.mk H
    clear H
    go_wp2
    repeat (go_quiet (fail); try go_wp2)
    go_meet
    case rel => exact ⟨_, (true), eq_now, H', ⟨by first | omega | exact Nat.le_refl _⟩, ⟨bk_now⟩, ⟨b_now⟩⟩
  case rest =>
   clear HC10
   try clear c1
   try clear p2
   try clear c5
   try clear c9
   try clear c13
   try clear c13b0
   try clear c13b1
   try clear c14
   try clear c14b0
   try clear c14b1
   try clear c15
   try clear c15b0
   try clear c16
   try clear c16b0
   try clear c16b1
   try clear c17
   try clear c17b0
   try clear c17b1
   try clear hcz12
   obtain ⟨kq, x67_9, rfl, HA, HJ9, BK250, HB⟩ := hcut
   cases kq with
   | zero => exact absurd HA.out (by simp [stockadelaw01_WordHalves.j0])
   | succ kj9 =>
    have H := HA.out
    clear HA
    simp only [stockadelaw01_WordHalves.j0] at H
    by_cases c18 : x67_9 = true
    ·subst c18
     replace H := sh_t H
     obtain rfl := Option.some.inj H
     exact absurd HRT.out (by simp)
    ·replace c18 := Bool.eq_false_iff.mpr c18
     subst c18
     replace H := sh_f H
     have HC19 := Aside0.mk H
     clear H
     go_upto_region 8 with (fail)
     repeat (go_quiet (fail); go_upto_region 8 with (fail))
     go_cut [89] (fun v89 wc => ∃ (kq : Nat) (x89_18 : Bool), v89 = .bool x89_18 ∧ Aside0 (stockadelaw01_WordHalves.j1 kq a0_0 a0_2 a0_3 t252 x89_18 = some r) ∧ Aside0 (kq ≤ kj9) ∧ Aside0 (wc.heap[gb250]? = some (.cells #[.int .i64 a0_0, .bool a0_1, .int .u64 a0_2, .int .u64 a0_3] 24 (0, 0))) ∧ Aside0 (Below w.heap.size w wc))
     case first =>
      have H := HC19.out
      clear HC19
      by_cases c20 : t253 = 0
      ·rw [if_pos c20] at H
       have c20b0 : (t253 == 0) = true := beq_iff_eq.mpr c20
       have c20b1 : (t253 != 0) = false := bne_eq_false_iff_eq.mpr c20
       clear c20
       (first | rw [c20b0] | (simp only [i64_w, i32_w]; rw [c20b0]) | skip)
       by_cases c21 : a0_0 = 3
       ·rw [if_pos c21] at H
        have c21b0 : (a0_0 == 3) = true := beq_iff_eq.mpr c21
        have c21b1 : (a0_0 != 3) = false := bne_eq_false_iff_eq.mpr c21
        clear c21
        have H' := Aside0.mk H
        clear H
        go_wp2
        repeat (go_quiet (fail); try go_wp2)
        go_meet
        case rel => exact ⟨_, (true), eq_now, H', ⟨by have := HJ9.out; first | omega | exact Nat.le_refl _⟩, ⟨bk_now⟩, ⟨b_now⟩⟩
       ·rw [if_neg c21] at H
        have c21b0 : (a0_0 == 3) = false := beq_eq_false_iff_ne.mpr c21
        have c21b1 : (a0_0 != 3) = true := bne_iff_ne.mpr c21
        by_cases c22 : a0_0 = 9
        ·rw [if_pos c22] at H
         have c22b0 : (a0_0 == 9) = true := beq_iff_eq.mpr c22
         have c22b1 : (a0_0 != 9) = false := bne_eq_false_iff_eq.mpr c22
         clear c22
         have H' := Aside0.mk H
         clear H
         go_wp2
         repeat (go_quiet (fail); try go_wp2)
         go_meet
         case rel => exact ⟨_, (true), eq_now, H', ⟨by have := HJ9.out; first | omega | exact Nat.le_refl _⟩, ⟨bk_now⟩, ⟨b_now⟩⟩
        ·rw [if_neg c22] at H
         have c22b0 : (a0_0 == 9) = false := beq_eq_false_iff_ne.mpr c22
         have c22b1 : (a0_0 != 9) = true := bne_iff_ne.mpr c22
         by_cases c23 : a0_0 = 6
         ·rw [if_pos c23] at H
          have c23b0 : (a0_0 == 6) = true := beq_iff_eq.mpr c23
          have c23b1 : (a0_0 != 6) = false := bne_eq_false_iff_eq.mpr c23
          clear c23
          have H' := Aside0.mk H
          clear H
          go_wp2
          repeat (go_quiet (fail); try go_wp2)
          go_meet
          case rel => exact ⟨_, (true), eq_now, H', ⟨by have := HJ9.out; first | omega | exact Nat.le_refl _⟩, ⟨bk_now⟩, ⟨b_now⟩⟩
         ·rw [if_neg c23] at H
          have c23b0 : (a0_0 == 6) = false := beq_eq_false_iff_ne.mpr c23
          have c23b1 : (a0_0 != 6) = true := bne_iff_ne.mpr c23
          by_cases c24 : a0_0 = 7
          ·rw [if_pos c24] at H
           have c24b0 : (a0_0 == 7) = true := beq_iff_eq.mpr c24
           have c24b1 : (a0_0 != 7) = false := bne_eq_false_iff_eq.mpr c24
           clear c24
           have H' := Aside0.mk H
           clear H
           go_wp2
           repeat (go_quiet (fail); try go_wp2)
           go_meet
           case rel => exact ⟨_, (true), eq_now, H', ⟨by have := HJ9.out; first | omega | exact Nat.le_refl _⟩, ⟨bk_now⟩, ⟨b_now⟩⟩
          ·rw [if_neg c24] at H
           have c24b0 : (a0_0 == 7) = false := beq_eq_false_iff_ne.mpr c24
           have c24b1 : (a0_0 != 7) = true := bne_iff_ne.mpr c24
           have H' := Aside0.mk H
           clear H
           go_wp2
           repeat (go_quiet (fail); try go_wp2)
           go_meet
           case rel => exact ⟨_, ((a0_0 == 12)), eq_now, H', ⟨by have := HJ9.out; first | omega | exact Nat.le_refl _⟩, ⟨bk_now⟩, ⟨b_now⟩⟩
      ·rw [if_neg c20] at H
       have c20b0 : (t253 == 0) = false := beq_eq_false_iff_ne.mpr c20
       have c20b1 : (t253 != 0) = true := bne_iff_ne.mpr c20
       (first | rw [c20b0] | (simp only [i64_w, i32_w]; rw [c20b0]) | skip)
       have H' := Aside0.mk H
       clear H
       go_wp2
       repeat (go_quiet (fail); try go_wp2)
       go_meet
       case rel => exact ⟨_, (true), eq_now, H', ⟨by have := HJ9.out; first | omega | exact Nat.le_refl _⟩, ⟨bk_now⟩, ⟨b_now⟩⟩
     case rest =>
      clear HC19
      try clear c1
      try clear c2
      try clear p2
      try clear c5
      try clear c9
      try clear c13
      try clear c13b0
      try clear c13b1
      try clear c14
      try clear c14b0
      try clear c14b1
      try clear c15
      try clear c15b0
      try clear c16
      try clear c16b0
      try clear c16b1
      try clear c17
      try clear c17b0
      try clear c17b1
      try clear c18
      try clear c20
      try clear c20b0
      try clear c20b1
      try clear c21
      try clear c21b0
      try clear c21b1
      try clear c22
      try clear c22b0
      try clear c22b1
      try clear c23
      try clear c23b0
      try clear c23b1
      try clear c24
      try clear c24b0
      try clear c24b1
      try clear hcz12
      try clear p2
      obtain ⟨kq, x89_18, rfl, HA, HJ18, BK250, HB⟩ := hcut
      cases kq with
      | zero => exact absurd HA.out (by simp [stockadelaw01_WordHalves.j1])
      | succ kj18 =>
       have H := HA.out
       clear HA
       simp only [stockadelaw01_WordHalves.j1] at H
       by_cases c25 : x89_18 = true
       ·subst c25
        replace H := sh_t H
        obtain rfl := Option.some.inj H
        go_wp2
        repeat (go_quiet (fail); try go_wp2)
        go_ret
        exact ⟨ret_now, b_now⟩
       ·replace c25 := Bool.eq_false_iff.mpr c25
        subst c25
        replace H := sh_f H
        replace H := Option.bind_eq_some_iff.mp H; obtain ⟨t258, A260, H⟩ := H; try dsimp only at H
        have A26 := Aside0.mk A260
        clear A260
        replace H := Option.bind_eq_some_iff.mp H; obtain ⟨t259, A270, H⟩ := H; try dsimp only at H
        have A27 := Aside0.mk A270
        clear A270
        obtain rfl := Option.some.inj H
        go_wp2_with (first | (go_at_call 22; (with_reducible refine (stockadelaw01_alu.calls a0_0 true a0_2 a0_3 t258 _ A26.out).mono ?_); rintro e w' ⟨rfl, ⟨nd, rfl⟩⟩; (try first | exact ⟨rfl, _, World.drewN_drewN _ _ _⟩ | exact ⟨rfl, _, Eq.trans (World.drewN_drewN _ _ _) (congrArg (World.drewN _) (Nat.add_assoc _ _ _))⟩)) | (go_at_call 25; (with_reducible refine (stockadelaw01_half.calls t258 t259 _ A27.out).mono ?_); rintro e w' ⟨rfl, ⟨nd, rfl⟩⟩; (try first | exact ⟨rfl, _, World.drewN_drewN _ _ _⟩ | exact ⟨rfl, _, Eq.trans (World.drewN_drewN _ _ _) (congrArg (World.drewN _) (Nat.add_assoc _ _ _))⟩)))
        repeat (go_quiet (first | (go_at_call 22; (with_reducible refine (stockadelaw01_alu.calls a0_0 true a0_2 a0_3 t258 _ A26.out).mono ?_); rintro e w' ⟨rfl, ⟨nd, rfl⟩⟩; (try first | exact ⟨rfl, _, World.drewN_drewN _ _ _⟩ | exact ⟨rfl, _, Eq.trans (World.drewN_drewN _ _ _) (congrArg (World.drewN _) (Nat.add_assoc _ _ _))⟩)) | (go_at_call 25; (with_reducible refine (stockadelaw01_half.calls t258 t259 _ A27.out).mono ?_); rintro e w' ⟨rfl, ⟨nd, rfl⟩⟩; (try first | exact ⟨rfl, _, World.drewN_drewN _ _ _⟩ | exact ⟨rfl, _, Eq.trans (World.drewN_drewN _ _ _) (congrArg (World.drewN _) (Nat.add_assoc _ _ _))⟩))); try go_wp2_with (first | (go_at_call 22; (with_reducible refine (stockadelaw01_alu.calls a0_0 true a0_2 a0_3 t258 _ A26.out).mono ?_); rintro e w' ⟨rfl, ⟨nd, rfl⟩⟩; (try first | exact ⟨rfl, _, World.drewN_drewN _ _ _⟩ | exact ⟨rfl, _, Eq.trans (World.drewN_drewN _ _ _) (congrArg (World.drewN _) (Nat.add_assoc _ _ _))⟩)) | (go_at_call 25; (with_reducible refine (stockadelaw01_half.calls t258 t259 _ A27.out).mono ?_); rintro e w' ⟨rfl, ⟨nd, rfl⟩⟩; (try first | exact ⟨rfl, _, World.drewN_drewN _ _ _⟩ | exact ⟨rfl, _, Eq.trans (World.drewN_drewN _ _ _) (congrArg (World.drewN _) (Nat.add_assoc _ _ _))⟩))))
        go_ret
        exact ⟨ret_now, b_now⟩
 ·replace c5 := Bool.eq_false_iff.mpr c5
  subst c5
  replace H := sh_f H
  obtain rfl := Option.some.inj H
  exact absurd HRT.out (by simp)

/-! ### stockadelaw01_holds: function 26 -/
def stockadelaw01_holds.f (k : Nat) (a0 : Int) (a1 : Bool) (a2 : Int) (a3 : Int) : Option (Bool × Bool) := (word_Cond.f k a0 a1 a2 a3).bind fun bt260 => (some (bt260.1, (bt260.2 == 0)))
theorem stockadelaw01_holds.mono : ∀ a0 a1 a2 a3 k, LeO (stockadelaw01_holds.f k a0 a1 a2 a3) (stockadelaw01_holds.f (k + 1) a0 a1 a2 a3) := by
 intro a0 a1 a2 a3 k
 unfold stockadelaw01_holds.f
 repeat' first
   | (with_reducible exact word_Cond.mono _ _ _ _ _)
   | (with_reducible exact LeO.refl _)
   | (with_reducible exact LeO.none _)
   | (with_reducible refine LeO.ite ?_ ?_)
   | (with_reducible refine LeO.bind ?_ (fun _ => ?_))
   | exact word_Cond.mono _ _ _ _ _
   | exact LeO.none _
   | refine LeO.ite ?_ ?_
   | refine LeO.bind ?_ (fun _ => ?_)
set_option maxHeartbeats 8000000 in
set_option maxRecDepth 100000 in
theorem stockadelaw01_holds.calls (k : Nat) (a0 : Int) (a1 : Bool) (a2 : Int) (a3 : Int) (r1 : Bool) (r2 : Bool) (w : World) (h : stockadelaw01_holds.f k a0 a1 a2 a3 = some (r1, r2)) :
  Calls Try.prog 26 #[.int .i64 a0, .bool a1, .int .u64 a2, .int .u64 a3] w fun e w' => e = .returned (.tuple #[.bool r1, .bool r2]) ∧ Drawn0 w w' := by
 have H : ((word_Cond.f k a0 a1 a2 a3).bind fun bt260 => (some (bt260.1, (bt260.2 == 0)))) = some (r1, r2) := h
 clear h
 replace H := Option.bind_eq_some_iff.mp H; obtain ⟨⟨t260, t261⟩, A50, H⟩ := H; try dsimp only at H
 have A5 := Aside0.mk A50
 clear A50
 simp only [Option.some.injEq, Prod.mk.injEq] at H
 obtain ⟨rfl, rfl⟩ := H
 go_enter Try.func26, Try.ntmps26
 go_wp2_with (first | ((with_reducible refine gate_callee (f := 16) rfl ?_); refine sh_call (some 17) Try.func16 #[.int .i64 a0, .bool a1, .int .u64 a2, .int .u64 a3] ?_; (with_reducible refine (word_Cond.calls k a0 a1 a2 a3 t260 t261 _ A5.out).mono ?_); rintro e w' ⟨rfl, ⟨nd, rfl⟩⟩; refine ⟨_, rfl, ?_⟩))
 go_ret2
 exact ⟨by first | rfl | (simp; done) | (simp [*]; done), by repeat (first | exact Drawn0.refl _ | apply Drawn0.step)⟩

-- NOT PRINTED: function 10 (stockadelaw01_WordOrders)

/-! ### stockadelaw01_WordTurns: function 11 -/
mutual
def stockadelaw01_WordTurns.l0 : Nat → Int → Int → Int → Option (Bool)
 | 0, _, _, _ => none
 | k + 1, x0, x1, x16 => if x16 < 3 then (if 0 ≤ x16 then (if 0 ≤ (IntKind.u64.wrap (rdOf (0 : Int) ([16, 32, 64] : List Int) x16)) then (if (rdOf (0 : Int) ([16, 32, 64] : List Int) x16) = 64 then (stockadelaw01_WordTurns.j1 k x0 x1 (rdOf (0 : Int) ([16, 32, 64] : List Int) x16) x0 x16) else (stockadelaw01_WordTurns.j1 k x0 x1 (rdOf (0 : Int) ([16, 32, 64] : List Int) x16) (Go.bits .and .u64 x0 (IntKind.u64.wrap ((shl .u64 1 (IntKind.u64.wrap (rdOf (0 : Int) ([16, 32, 64] : List Int) x16))) - 1))) x16)) else (none)) else (none)) else ((word_Ext.f x1).bind fun t264 => (if (wrap32 ((t264) % 4294967296)) = x1 then (if (t264 / 2147483648) = 0 then (some true) else (some ((t264 / 2147483648) == 8589934591))) else (some false)))
def stockadelaw01_WordTurns.j1 : Nat → Int → Int → Int → Int → Int → Option (Bool)
 | 0, _, _, _, _, _ => none
 | k + 1, x0, x1, x6, x7, x16 => (word_Swap.f x6 x0).bind fun bt266 => ((word_Swap.f x6 bt266.1).bind fun bt268 => (if bt266.2 = 0 then (if bt268.2 = 0 then (if bt268.1 = x7 then (if 0 ≤ (IntKind.u64.wrap (wrap64 (x6 - 8))) then (if (Go.bits .and .u64 bt266.1 255) = (shr .u64 x7 (IntKind.u64.wrap (wrap64 (x6 - 8)))) then (stockadelaw01_WordTurns.l0 k x0 x1 (wrap64 (x16 + 1))) else (some false)) else (none)) else (some false)) else (some false)) else (some false)))
end
def stockadelaw01_WordTurns.f (k : Nat) (a0 : Int) (a1 : Int) : Option (Bool) := (stockadelaw01_awake.f k).bind fun t263 => (if t263 = true then (stockadelaw01_WordTurns.l0 k a0 a1 0) else (some false))
theorem stockadelaw01_WordTurns.mono_l : ∀ k, (∀ y0 y1 y2, LeO (stockadelaw01_WordTurns.l0 k y0 y1 y2) (stockadelaw01_WordTurns.l0 (k + 1) y0 y1 y2)) ∧ (∀ y0 y1 y2 y3 y4, LeO (stockadelaw01_WordTurns.j1 k y0 y1 y2 y3 y4) (stockadelaw01_WordTurns.j1 (k + 1) y0 y1 y2 y3 y4))
 | 0 => ⟨fun _ _ _ r h => by simp [stockadelaw01_WordTurns.l0] at h, fun _ _ _ _ _ r h => by simp [stockadelaw01_WordTurns.j1] at h⟩
 | k + 1 => by
  obtain ⟨ih0, ih1⟩ := stockadelaw01_WordTurns.mono_l k
  refine ⟨?_, ?_⟩
  ·intro y0 y1 y2
   unfold stockadelaw01_WordTurns.l0
   repeat' first
   | (with_reducible exact ih0 _ _ _)
   | (with_reducible exact ih1 _ _ _ _ _)
   | (with_reducible exact stockadelaw01_awake.mono _)
   | (with_reducible exact LeO.refl _)
   | (with_reducible exact LeO.none _)
   | (with_reducible refine LeO.ite ?_ ?_)
   | (with_reducible refine LeO.bind ?_ (fun _ => ?_))
   | exact ih0 _ _ _
   | exact ih1 _ _ _ _ _
   | exact stockadelaw01_awake.mono _
   | exact LeO.none _
   | refine LeO.ite ?_ ?_
   | refine LeO.bind ?_ (fun _ => ?_)
  ·intro y0 y1 y2 y3 y4
   unfold stockadelaw01_WordTurns.j1
   repeat' first
   | (with_reducible exact ih0 _ _ _)
   | (with_reducible exact ih1 _ _ _ _ _)
   | (with_reducible exact stockadelaw01_awake.mono _)
   | (with_reducible exact LeO.refl _)
   | (with_reducible exact LeO.none _)
   | (with_reducible refine LeO.ite ?_ ?_)
   | (with_reducible refine LeO.bind ?_ (fun _ => ?_))
   | exact ih0 _ _ _
   | exact ih1 _ _ _ _ _
   | exact stockadelaw01_awake.mono _
   | exact LeO.none _
   | refine LeO.ite ?_ ?_
   | refine LeO.bind ?_ (fun _ => ?_)
theorem stockadelaw01_WordTurns.mono : ∀ a0 a1 k, LeO (stockadelaw01_WordTurns.f k a0 a1) (stockadelaw01_WordTurns.f (k + 1) a0 a1) := by
 intro a0 a1 k
 obtain ⟨ih0, ih1⟩ := stockadelaw01_WordTurns.mono_l k
 unfold stockadelaw01_WordTurns.f
 repeat' first
   | (with_reducible exact ih0 _ _ _)
   | (with_reducible exact ih1 _ _ _ _ _)
   | (with_reducible exact stockadelaw01_awake.mono _)
   | (with_reducible exact LeO.refl _)
   | (with_reducible exact LeO.none _)
   | (with_reducible refine LeO.ite ?_ ?_)
   | (with_reducible refine LeO.bind ?_ (fun _ => ?_))
   | exact ih0 _ _ _
   | exact ih1 _ _ _ _ _
   | exact stockadelaw01_awake.mono _
   | exact LeO.none _
   | refine LeO.ite ?_ ?_
   | refine LeO.bind ?_ (fun _ => ?_)
set_option maxHeartbeats 8000000 in
set_option maxRecDepth 100000 in
theorem stockadelaw01_WordTurns.calls (k : Nat) (a0 : Int) (a1 : Int) (r : Bool) (w : World) (hr_ : r = true) (h : stockadelaw01_WordTurns.f k a0 a1 = some r) :
  Calls Try.prog 11 #[.int .u64 a0, .int .i32 a1] w fun e w' => e = .returned (.bool r) ∧ Drawn0 w w' := by
 have HRT := Aside0.mk hr_
 clear hr_
 have H : ((stockadelaw01_awake.f k).bind fun t263 => (if t263 = true then (stockadelaw01_WordTurns.l0 k a0 a1 0) else (some false))) = some r := h
 clear h
 replace H := Option.bind_eq_some_iff.mp H; obtain ⟨t263, A30, H⟩ := H; try dsimp only at H
 have A3 := Aside0.mk A30
 clear A30
 by_cases c4 : t263 = true
 ·subst c4
  replace H := sh_t H
  have H' := Aside0.mk H
  clear H
  go_enter Try.func11, Try.ntmps11
  go_wp2_with (first | ((with_reducible refine gate_callee (f := 15) rfl ?_); refine sh_call (some 13) Try.func15 #[] ?_; (with_reducible refine (stockadelaw01_awake.calls k  true _ A3.out).mono ?_); rintro e w' ⟨rfl, ⟨nd, rfl⟩⟩; refine ⟨_, rfl, ?_⟩))
  go_loopg [16] k (fun kq v16 w' => ∃ (x16_1 : Int), v16 = .int .i64 x16_1 ∧ Aside0 (stockadelaw01_WordTurns.l0 kq a0 a1 x16_1 = some r) ∧ Aside0 (kq ≤ k) ∧ Drawn0 w w')
  case atStart => exact ⟨(0), eq_now, H', ⟨Nat.le_refl _⟩, by repeat (first | exact Drawn0.refl _ | apply Drawn0.step)⟩
  case round =>
   clear H'
   try clear c1
   try clear p2
   try clear c4
   obtain ⟨x16_1, rfl, HA, HK1, ⟨m1, rfl⟩⟩ := hrel
   cases gk with
   | zero => exact absurd HA.out (by simp [stockadelaw01_WordTurns.l0])
   | succ k1 =>
    have H := HA.out
    clear HA
    simp only [stockadelaw01_WordTurns.l0] at H
    by_cases c5 : x16_1 < 3
    ·rw [if_pos c5] at H
     have c5b0 : decide (x16_1 < 3) = true := decide_eq_true c5
     clear c5
     by_cases c6 : 0 ≤ x16_1
     ·rw [if_pos c6] at H
      have c6b0 : decide (0 ≤ x16_1) = true := decide_eq_true c6
      clear c6
      obtain ⟨i265_, hi265_, _⟩ := Option.map_eq_some_iff.1 (show (Try.prog.info? 3).map (fun i => i.size) = some 1 by kernel_rfl)
      have ix265 : ∀ W_ : World, (Instr.index 53 (.agg #[.int .i64 16, .int .i64 32, .int .i64 64]) (.int .i64 x16_1)).run Try.prog W_ = .ok (.int .i64 (rdOf (0 : Int) ([16, 32, 64] : List Int) x16_1)) W_ := fun W_ => run_index_enc (Value.int .i64) (0 : Int) ([16, 32, 64] : List Int) x16_1 W_ Try.underlying53 (fun W_ => by kernel_rfl) hi265_ (by kernel_rfl) (by first | omega | exact of_decide_eq_true (by first | (with_reducible assumption) | assumption)) (by first | omega | exact of_decide_eq_true (by first | (with_reducible assumption) | assumption)) rfl
      clear hi265_
      obtain ⟨ji7, hji7⟩ : ∃ j_ : Int, (IntKind.u64.wrap (rdOf (0 : Int) ([16, 32, 64] : List Int) x16_1)) = j_ := ⟨_, rfl⟩
      replace H : (if 0 ≤ (ji7) then (if (rdOf (0 : Int) ([16, 32, 64] : List Int) x16_1) = 64 then (stockadelaw01_WordTurns.j1 k1 a0 a1 (rdOf (0 : Int) ([16, 32, 64] : List Int) x16_1) a0 x16_1) else (stockadelaw01_WordTurns.j1 k1 a0 a1 (rdOf (0 : Int) ([16, 32, 64] : List Int) x16_1) (Go.bits .and .u64 a0 (IntKind.u64.wrap ((shl .u64 1 (ji7)) - 1))) x16_1)) else (none)) = some r := by first | (rw [hji7] at H; exact H) | (simp only [hji7] at H ⊢; exact H)
      by_cases c8 : 0 ≤ (ji7)
      ·rw [if_pos c8] at H
       have c8b0 := eq_true c8
       have c8b1 : decide (0 ≤ (ji7)) = true := decide_eq_true c8
       clear c8
       obtain ⟨ji9, hji9⟩ : ∃ j_ : Int, (shl .u64 1 (ji7)) = j_ := ⟨_, rfl⟩
       replace H : (if (rdOf (0 : Int) ([16, 32, 64] : List Int) x16_1) = 64 then (stockadelaw01_WordTurns.j1 k1 a0 a1 (rdOf (0 : Int) ([16, 32, 64] : List Int) x16_1) a0 x16_1) else (stockadelaw01_WordTurns.j1 k1 a0 a1 (rdOf (0 : Int) ([16, 32, 64] : List Int) x16_1) (Go.bits .and .u64 a0 (IntKind.u64.wrap ((ji9) - 1))) x16_1)) = some r := by first | (rw [hji9] at H; exact H) | (simp only [hji9] at H ⊢; exact H)
       have hji9_ : (IntKind.u64.wrap (1 * 2 ^ min (ji7).toNat 64)) = ji9 := hji9
       have hji9z : (ji7) ≤ 64 → (IntKind.u64.wrap (1 * 2 ^ (ji7).toNat)) = ji9 := shl_small hji9
       have hji9u : (IntKind.u64.wrap (2 ^ min (ji7).toNat 64)) = ji9 := by have h_ := hji9_; rw [Int.one_mul] at h_; exact h_
       have hji9v : (ji7) ≤ 64 → (IntKind.u64.wrap (2 ^ (ji7).toNat)) = ji9 := fun hle_ => by have h_ := hji9z hle_; rw [Int.one_mul] at h_; exact h_
       have HC10 := Aside0.mk H
       clear H
       go_upto_if 26 with (fail)
       go_cut [7] (fun v7 wc => ∃ (kq : Nat) (x7_9 : Int), v7 = .int .u64 x7_9 ∧ Aside0 (stockadelaw01_WordTurns.j1 kq a0 a1 (rdOf (0 : Int) ([16, 32, 64] : List Int) x16_1) x7_9 x16_1 = some r) ∧ Aside0 (kq ≤ k1) ∧ Drawn0 w wc)
       case first =>
        have H := HC10.out
        clear HC10
        by_cases c11 : (rdOf (0 : Int) ([16, 32, 64] : List Int) x16_1) = 64
        ·rw [if_pos c11] at H
         have c11b0 : ((rdOf (0 : Int) ([16, 32, 64] : List Int) x16_1) == 64) = true := beq_iff_eq.mpr c11
         have c11b1 : ((rdOf (0 : Int) ([16, 32, 64] : List Int) x16_1) != 64) = false := bne_eq_false_iff_eq.mpr c11
         clear c11
         (first | rw [c11b0] | (simp only [i64_w, i32_w]; rw [c11b0]) | skip)
         have H' := Aside0.mk H
         clear H
         go_wp2
         go_meet
         case rel => exact ⟨_, (a0), eq_now, H', ⟨by have := HK1.out; first | omega | exact Nat.le_refl _⟩, by repeat (first | exact Drawn0.refl _ | apply Drawn0.step)⟩
        ·rw [if_neg c11] at H
         have c11b0 : ((rdOf (0 : Int) ([16, 32, 64] : List Int) x16_1) == 64) = false := beq_eq_false_iff_ne.mpr c11
         have c11b1 : ((rdOf (0 : Int) ([16, 32, 64] : List Int) x16_1) != 64) = true := bne_iff_ne.mpr c11
         (first | rw [c11b0] | (simp only [i64_w, i32_w]; rw [c11b0]) | skip)
         have H' := Aside0.mk H
         clear H
         go_wp2
         go_meet
         case rel => exact ⟨_, (Go.bits .and .u64 a0 (IntKind.u64.wrap ((ji9) - 1))), (by first | rfl | (simp; done) | (simp only [← hji9] <;> (first | rfl | simp)) | (simp [*]; done)), H', ⟨by have := HK1.out; first | omega | exact Nat.le_refl _⟩, by repeat (first | exact Drawn0.refl _ | apply Drawn0.step)⟩
       case rest =>
        clear HC10
        try clear c1
        try clear p2
        try clear c4
        try clear c5
        try clear c5b0
        try clear c6
        try clear c6b0
        try clear c8
        try clear c8b0
        try clear c8b1
        try clear c11
        try clear c11b0
        try clear c11b1
        try clear p2
        obtain ⟨kq, x7_9, rfl, HA, HJ9, ⟨mc9, rfl⟩⟩ := hcut
        cases kq with
        | zero => exact absurd HA.out (by simp [stockadelaw01_WordTurns.j1])
        | succ kj9 =>
         have H := HA.out
         clear HA
         simp only [stockadelaw01_WordTurns.j1] at H
         replace H := Option.bind_eq_some_iff.mp H; obtain ⟨⟨t266, t267⟩, A120, H⟩ := H; try dsimp only at H
         have A12 := Aside0.mk A120
         clear A120
         replace H := Option.bind_eq_some_iff.mp H; obtain ⟨⟨t268, t269⟩, A130, H⟩ := H; try dsimp only at H
         have A13 := Aside0.mk A130
         clear A130
         by_cases c14 : t267 = 0
         ·rw [if_pos c14] at H
          have c14b0 : (t267 == 0) = true := beq_iff_eq.mpr c14
          have c14b1 : (t267 != 0) = false := bne_eq_false_iff_eq.mpr c14
          clear c14
          by_cases c15 : t269 = 0
          ·rw [if_pos c15] at H
           have c15b0 : (t269 == 0) = true := beq_iff_eq.mpr c15
           have c15b1 : (t269 != 0) = false := bne_eq_false_iff_eq.mpr c15
           clear c15
           by_cases c16 : t268 = x7_9
           ·rw [if_pos c16] at H
            have c16b0 : (t268 == x7_9) = true := beq_iff_eq.mpr c16
            have c16b1 : (t268 != x7_9) = false := bne_eq_false_iff_eq.mpr c16
            clear c16
            obtain ⟨ji17, hji17⟩ : ∃ j_ : Int, (IntKind.u64.wrap (wrap64 ((rdOf (0 : Int) ([16, 32, 64] : List Int) x16_1) - 8))) = j_ := ⟨_, rfl⟩
            replace H : (if 0 ≤ (ji17) then (if (Go.bits .and .u64 t266 255) = (shr .u64 x7_9 (ji17)) then (stockadelaw01_WordTurns.l0 kj9 a0 a1 (wrap64 (x16_1 + 1))) else (some false)) else (none)) = some r := by first | (rw [hji17] at H; exact H) | (simp only [hji17] at H ⊢; exact H)
            (try rw [hji17] at A12)
            (try rw [hji17] at A13)
            by_cases c18 : 0 ≤ (ji17)
            ·rw [if_pos c18] at H
             have c18b0 := eq_true c18
             have c18b1 : decide (0 ≤ (ji17)) = true := decide_eq_true c18
             clear c18
             obtain ⟨ji19, hji19⟩ : ∃ j_ : Int, (shr .u64 x7_9 (ji17)) = j_ := ⟨_, rfl⟩
             replace H : (if (Go.bits .and .u64 t266 255) = (ji19) then (stockadelaw01_WordTurns.l0 kj9 a0 a1 (wrap64 (x16_1 + 1))) else (some false)) = some r := by first | (rw [hji19] at H; exact H) | (simp only [hji19] at H ⊢; exact H)
             (try rw [hji19] at A12)
             (try rw [hji19] at A13)
             have hji19_ : (x7_9 / 2 ^ min (ji17).toNat 64) = ji19 := hji19
             have hji19z : (ji17) ≤ 64 → (x7_9 / 2 ^ (ji17).toNat) = ji19 := shr_small hji19
             by_cases c20 : (Go.bits .and .u64 t266 255) = (ji19)
             ·rw [if_pos c20] at H
              have c20b0 : ((Go.bits .and .u64 t266 255) == (ji19)) = true := beq_iff_eq.mpr c20
              have c20b1 : ((Go.bits .and .u64 t266 255) != (ji19)) = false := bne_eq_false_iff_eq.mpr c20
              clear c20
              have H' := Aside0.mk H
              clear H
              go_wp2_with (first | ((with_reducible refine gate_callee (f := 18) rfl ?_); refine sh_call (some 31) Try.func18 #[.int .i64 (rdOf (0 : Int) ([16, 32, 64] : List Int) x16_1), .int .u64 a0] ?_; (with_reducible refine (word_Swap.calls (rdOf (0 : Int) ([16, 32, 64] : List Int) x16_1) a0 t266 t267 _ A12.out).mono ?_); rintro e w' ⟨rfl, ⟨nd, rfl⟩⟩; refine ⟨_, rfl, ?_⟩) | ((with_reducible refine gate_callee (f := 18) rfl ?_); refine sh_call (some 37) Try.func18 #[.int .i64 (rdOf (0 : Int) ([16, 32, 64] : List Int) x16_1), .int .u64 t266] ?_; (with_reducible refine (word_Swap.calls (rdOf (0 : Int) ([16, 32, 64] : List Int) x16_1) t266 t268 t269 _ A13.out).mono ?_); rintro e w' ⟨rfl, ⟨nd, rfl⟩⟩; refine ⟨_, rfl, ?_⟩))
              go_roundg kj9
              case measure => have := HK1.out; have := HJ9.out; omega
              case rel => exact ⟨(wrap64 (x16_1 + 1)), eq_now, H', ⟨by have := HK1.out; have := HJ9.out; omega⟩, by repeat (first | exact Drawn0.refl _ | apply Drawn0.step)⟩
             ·rw [if_neg c20] at H
              have c20b0 : ((Go.bits .and .u64 t266 255) == (ji19)) = false := beq_eq_false_iff_ne.mpr c20
              have c20b1 : ((Go.bits .and .u64 t266 255) != (ji19)) = true := bne_iff_ne.mpr c20
              obtain rfl := Option.some.inj H
              exact absurd HRT.out (by simp)
            ·rw [if_neg c18] at H
             exact absurd H (by simp)
           ·rw [if_neg c16] at H
            have c16b0 : (t268 == x7_9) = false := beq_eq_false_iff_ne.mpr c16
            have c16b1 : (t268 != x7_9) = true := bne_iff_ne.mpr c16
            obtain rfl := Option.some.inj H
            exact absurd HRT.out (by simp)
          ·rw [if_neg c15] at H
           have c15b0 : (t269 == 0) = false := beq_eq_false_iff_ne.mpr c15
           have c15b1 : (t269 != 0) = true := bne_iff_ne.mpr c15
           obtain rfl := Option.some.inj H
           exact absurd HRT.out (by simp)
         ·rw [if_neg c14] at H
          have c14b0 : (t267 == 0) = false := beq_eq_false_iff_ne.mpr c14
          have c14b1 : (t267 != 0) = true := bne_iff_ne.mpr c14
          obtain rfl := Option.some.inj H
          exact absurd HRT.out (by simp)
      ·rw [if_neg c8] at H
       exact absurd H (by simp)
     ·rw [if_neg c6] at H
      exact absurd H (by simp)
    ·rw [if_neg c5] at H
     have c5b0 : decide (x16_1 < 3) = false := decide_eq_false c5
     clear c5
     replace H := Option.bind_eq_some_iff.mp H; obtain ⟨t264, A210, H⟩ := H; try dsimp only at H
     have A21 := Aside0.mk A210
     clear A210
     by_cases c22 : (wrap32 ((t264) % 4294967296)) = a1
     ·rw [if_pos c22] at H
      have c22b0 : ((wrap32 ((t264) % 4294967296)) == a1) = true := beq_iff_eq.mpr c22
      have c22b1 : ((wrap32 ((t264) % 4294967296)) != a1) = false := bne_eq_false_iff_eq.mpr c22
      clear c22
      by_cases c23 : (t264 / 2147483648) = 0
      ·rw [if_pos c23] at H
       have c23b0 : ((t264 / 2147483648) == 0) = true := beq_iff_eq.mpr c23
       have c23b1 : ((t264 / 2147483648) != 0) = false := bne_eq_false_iff_eq.mpr c23
       clear c23
       obtain rfl := Option.some.inj H
       go_wp2_with (first | ((with_reducible refine gate_callee (f := 20) rfl ?_); refine sh_call (some 63) Try.func20 #[.int .i32 a1] ?_; (with_reducible refine (word_Ext.calls a1 t264 _ A21.out).mono ?_); rintro e w' ⟨rfl, ⟨nd, rfl⟩⟩; refine ⟨_, rfl, ?_⟩))
       go_ret
       exact ⟨by first | rfl | (simp; done) | (simp [*]; done), by repeat (first | exact Drawn0.refl _ | apply Drawn0.step)⟩
      ·rw [if_neg c23] at H
       have c23b0 : ((t264 / 2147483648) == 0) = false := beq_eq_false_iff_ne.mpr c23
       have c23b1 : ((t264 / 2147483648) != 0) = true := bne_iff_ne.mpr c23
       obtain rfl := Option.some.inj H
       go_wp2_with (first | ((with_reducible refine gate_callee (f := 20) rfl ?_); refine sh_call (some 63) Try.func20 #[.int .i32 a1] ?_; (with_reducible refine (word_Ext.calls a1 t264 _ A21.out).mono ?_); rintro e w' ⟨rfl, ⟨nd, rfl⟩⟩; refine ⟨_, rfl, ?_⟩))
       go_ret
       exact ⟨by first | rfl | (simp; done) | (simp [*]; done), by repeat (first | exact Drawn0.refl _ | apply Drawn0.step)⟩
     ·rw [if_neg c22] at H
      have c22b0 : ((wrap32 ((t264) % 4294967296)) == a1) = false := beq_eq_false_iff_ne.mpr c22
      have c22b1 : ((wrap32 ((t264) % 4294967296)) != a1) = true := bne_iff_ne.mpr c22
      obtain rfl := Option.some.inj H
      exact absurd HRT.out (by simp)
 ·replace c4 := Bool.eq_false_iff.mpr c4
  subst c4
  replace H := sh_f H
  obtain rfl := Option.some.inj H
  exact absurd HRT.out (by simp)

end Go.Proofs.Ytgmgnlmhfhdfgaa.P
