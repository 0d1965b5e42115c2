/- Made by this session's driver over the kit's printer: for each Go function a Lean function with the same answers, and a proof that the Go call comes to these answers; no conditions but the ones each theorem names. -/
import Derived.Test.YtighficpbplkhaaDoorPx0
import Derived.Test.YtighficpbplkhaaDoorPx10
import Derived.Test.YtighficpbplkhaaDoorPx11
import Derived.Test.YtighficpbplkhaaDoorPx20
import Derived.Test.YtighficpbplkhaaDoorPxXXCu
namespace Go.Proofs.YtighficpbplkhaaDoor.P
open Go.RowKit Go.Proofs.YtighficpbplkhaaDoorW.PrintWords Go.Proofs.YtighficpbplkhaaDoorW.PrintLast Go.Proofs.YtighficpbplkhaaDoorW.PrintMore
attribute [local go_sem] max2_int min2_int max_two min_two max_three min_three max_four min_four   -- for this text's walks alone
set_option linter.unusedVariables false
set_option linter.unusedSimpArgs false

/-! ### rule_Parse: function 22 -/
mutual
def rule_Parse.l0 : Nat → ByteArray → List (S53) → Int → Option ((List (S53)) × Int × Int)
 | 0, _, _, _ => none
 | k + 1, x0, x5, x6 => if x0.toList = ([] : List UInt8) then (some (x5, 0, 0)) else ((strings_Cut.f x0 (⟨#[10]⟩ : ByteArray)).bind fun bt229 => ((rule_rule.f k bt229.1).bind fun bt232 => (if bt232.2.2 = true then (rule_Parse.j1 k x5 x6 bt229.2.1 (!bt229.2.2) bt232.1 bt232.2.1) else (rule_Parse.j1 k x5 x6 bt229.2.1 true bt232.1 bt232.2.1))))
def rule_Parse.j1 : Nat → List (S53) → Int → ByteArray → Bool → List (S50) → Int → Option ((List (S53)) × Int × Int)
 | 0, _, _, _, _, _, _ => none
 | k + 1, x5, x6, x8, x30, x238000, x238001 => if x30 = true then (some (([] : List (S53)), x6, 5)) else (if x6 > 32 then (some (([] : List (S53)), x6, 3)) else (if x5.length < 4398046511104 then (rule_Parse.l0 k x8 (x5 ++ [(⟨x238000, x238001⟩ : S53)]) (wrap64 (x6 + 1))) else (none)))
end
def rule_Parse.f (k : Nat) (a0 : ByteArray) : Option ((List (S53)) × Int × Int) := if (a0.size : Int) > 65536 then (some (([] : List (S53)), 0, 3)) else (rule_Parse.l0 k a0 ([] : List (S53)) 1)
theorem rule_Parse.mono_l : ∀ k, (∀ y0 y1 y2, LeO (rule_Parse.l0 k y0 y1 y2) (rule_Parse.l0 (k + 1) y0 y1 y2)) ∧ (∀ y0 y1 y2 y3 y4 y5, LeO (rule_Parse.j1 k y0 y1 y2 y3 y4 y5) (rule_Parse.j1 (k + 1) y0 y1 y2 y3 y4 y5))
 | 0 => ⟨fun _ _ _ r h => by simp [rule_Parse.l0] at h, fun _ _ _ _ _ _ r h => by simp [rule_Parse.j1] at h⟩
 | k + 1 => by
  obtain ⟨ih0, ih1⟩ := rule_Parse.mono_l k
  refine ⟨?_, ?_⟩
  ·intro y0 y1 y2
   unfold rule_Parse.l0
   repeat' first
   | (with_reducible exact ih0 _ _ _)
   | (with_reducible exact ih1 _ _ _ _ _ _)
   | (with_reducible exact rule_rule.mono _ _)
   | (with_reducible exact LeO.refl _)
   | (with_reducible exact LeO.none _)
   | (with_reducible refine LeO.ite ?_ ?_)
   | (with_reducible refine LeO.bind ?_ (fun _ => ?_))
   | exact ih0 _ _ _
   | exact ih1 _ _ _ _ _ _
   | exact rule_rule.mono _ _
   | exact LeO.none _
   | refine LeO.ite ?_ ?_
   | refine LeO.bind ?_ (fun _ => ?_)
  ·intro y0 y1 y2 y3 y4 y5
   unfold rule_Parse.j1
   repeat' first
   | (with_reducible exact ih0 _ _ _)
   | (with_reducible exact ih1 _ _ _ _ _ _)
   | (with_reducible exact rule_rule.mono _ _)
   | (with_reducible exact LeO.refl _)
   | (with_reducible exact LeO.none _)
   | (with_reducible refine LeO.ite ?_ ?_)
   | (with_reducible refine LeO.bind ?_ (fun _ => ?_))
   | exact ih0 _ _ _
   | exact ih1 _ _ _ _ _ _
   | exact rule_rule.mono _ _
   | exact LeO.none _
   | refine LeO.ite ?_ ?_
   | refine LeO.bind ?_ (fun _ => ?_)
theorem rule_Parse.mono : ∀ a0 k, LeO (rule_Parse.f k a0) (rule_Parse.f (k + 1) a0) := by
 intro a0 k
 obtain ⟨ih0, ih1⟩ := rule_Parse.mono_l k
 unfold rule_Parse.f
 repeat' first
   | (with_reducible exact ih0 _ _ _)
   | (with_reducible exact ih1 _ _ _ _ _ _)
   | (with_reducible exact rule_rule.mono _ _)
   | (with_reducible exact LeO.refl _)
   | (with_reducible exact LeO.none _)
   | (with_reducible refine LeO.ite ?_ ?_)
   | (with_reducible refine LeO.bind ?_ (fun _ => ?_))
   | exact ih0 _ _ _
   | exact ih1 _ _ _ _ _ _
   | exact rule_rule.mono _ _
   | exact LeO.none _
   | refine LeO.ite ?_ ?_
   | refine LeO.bind ?_ (fun _ => ?_)
set_option maxHeartbeats 8000000 in
set_option maxRecDepth 100000 in
theorem rule_Parse.calls (k : Nat) (a0 : ByteArray) (r1 : List (S53)) (r2 : Int) (r3 : Int) (w : World) (hrG0 : Kd.C kGF w (some ⟨0, 0, none⟩) gl0.length gl0) (h : rule_Parse.f k a0 = some (r1, r2, r3)) :
  Calls Tryd.prog 22 #[.string a0] w fun e w' => ∃ v0_ : Value, e = .returned (.tuple #[v0_, .int .i64 r2, .int .i64 r3]) ∧ Kd.S k53 53 w' w.heap.size (fun _ => True) v0_ r1 ∧ Below w.heap.size w w' := by
 have hu53 := Tryd.underlying53
 have HRG0 := Aside0.mk hrG0
 clear hrG0
 have HB := Aside0.mk (Below.refl w.heap.size w)
 have H : (if (a0.size : Int) > 65536 then (some (([] : List (S53)), 0, 3)) else (rule_Parse.l0 k a0 ([] : List (S53)) 1)) = some (r1, r2, r3) := h
 clear h
 by_cases c2 : (a0.size : Int) > 65536
 ·rw [if_pos c2] at H
  have c2b0 : decide (65536 < (a0.size : Int)) = true := decide_eq_true c2
  have c2b1 : decide (65536 < a0.size) = true := decide_eq_true (by omega)
  clear c2
  simp only [Option.some.injEq, Prod.mk.injEq] at H
  obtain ⟨rfl, rfl, rfl⟩ := H
  go_enter Tryd.func22, Tryd.ntmps22
  go_wp2
  go_ret3
  exact ⟨_, ret_now, by first | exact Kd.S_nil _ _ _ _ _ | exact Kd.N_nil _ _ _ _ _ | exact Kd.V_nil _ _ _ _ _ | exact Kd.Q_nil _ _ _ _ _ | exact Kd.R_nil _ _ _ _ _, b_now⟩
 ·rw [if_neg c2] at H
  have c2b0 : decide (65536 < (a0.size : Int)) = false := decide_eq_false c2
  have c2b1 : decide (65536 < a0.size) = false := decide_eq_false (by omega)
  clear c2
  have H' := Aside0.mk H
  clear H
  go_enter Tryd.func22, Tryd.ntmps22
  go_wp2
  go_loopg [0, 5, 6] k (fun kq v0 v5 v6 w' => ∃ (x0_1 : ByteArray) (x5_1 : List (S53)) (x6_1 : Int), v0 = .string x0_1 ∧ v6 = .int .i64 x6_1 ∧ Aside0 (rule_Parse.l0 kq x0_1 x5_1 x6_1 = some (r1, r2, r3)) ∧ Aside0 (kq ≤ k) ∧ Aside0 (Kd.S k53 53 w' w.heap.size (fun _ => True) v5 x5_1) ∧ Aside0 (Below w.heap.size w w'))
  case atStart => exact ⟨(a0), (([] : List (S53))), (1), eq_now, eq_now, H', ⟨Nat.le_refl _⟩, ⟨by first | exact Kd.S_nil _ _ _ _ _ | exact Kd.N_nil _ _ _ _ _ | exact Kd.V_nil _ _ _ _ _ | exact Kd.Q_nil _ _ _ _ _ | exact Kd.R_nil _ _ _ _ _⟩, ⟨b_now⟩⟩
  case round =>
   clear H'
   clear c2b0 c2b1
   obtain ⟨x0_1, x5_1, x6_1, rfl, rfl, HA, HK1, HO_5, HB⟩ := hrel
   cases gk with
   | zero => exact absurd HA.out (by simp [rule_Parse.l0])
   | succ k1 =>
    have H := HA.out
    clear HA
    simp only [rule_Parse.l0] at H
    by_cases c3 : x0_1.toList = ([] : List UInt8)
    ·rw [if_pos c3] at H
     have c3b0 : (x0_1.toList == ([] : List UInt8)) = true := beq_iff_eq.mpr c3
     have c3b1 : (x0_1.toList != ([] : List UInt8)) = false := bne_eq_false_iff_eq.mpr c3
     clear c3
     simp only [Option.some.injEq, Prod.mk.injEq] at H
     obtain ⟨rfl, rfl, rfl⟩ := H
     go_wp2
     go_ret3
     exact ⟨_, ret_now, by (with_reducible repeat (first | apply Kd.S_alloc | apply Kd.S_drewN | apply Kd.S_drew)); exact HO_5.out, b_now⟩
    ·rw [if_neg c3] at H
     have c3b0 : (x0_1.toList == ([] : List UInt8)) = false := beq_eq_false_iff_ne.mpr c3
     have c3b1 : (x0_1.toList != ([] : List UInt8)) = true := bne_iff_ne.mpr c3
     replace H := Option.bind_eq_some_iff.mp H; obtain ⟨⟨t229, t230, t231⟩, A40, H⟩ := H; try dsimp only at H
     have A4 := Aside0.mk A40
     clear A40
     replace H := Option.bind_eq_some_iff.mp H; obtain ⟨⟨t232, t235, t236⟩, A50, H⟩ := H; try dsimp only at H
     have A5 := Aside0.mk A50
     clear A50
     have HC6 := Aside0.mk H
     clear H
     go_upto_region 9 with (first | ((with_reducible refine gate_callee (f := 37) rfl ?_); refine sh_call (some 21) Tryd.func37 #[.string x0_1, .string (⟨#[10]⟩ : ByteArray)] ?_; (with_reducible refine (strings_Cut.calls x0_1 (⟨#[10]⟩ : ByteArray) t229 t230 t231 _ ?side1 A4.out).mono ?_); (case side1 => repeat (first | exact (Kd.C_below HRG0.out HB.out) | (with_reducible refine Kd.C_alloc ?_ _) | (with_reducible refine Kd.C_drewN ?_ _) | (with_reducible refine Kd.C_drew ?_))); rintro e w' ⟨rfl, ⟨nd, rfl⟩⟩; refine ⟨_, rfl, ?_⟩; (try (rw [drewN_self wr]; generalize hq_ : World.drewN wr _ = wr; have n0_ : Aside0 (Kd.S k53 53 wr w.heap.size (fun _ => True) u5 x5_1) := ⟨by rw [← hq_]; exact (by (with_reducible repeat (first | apply Kd.S_alloc | apply Kd.S_drewN | apply Kd.S_drew)); exact HO_5.out)⟩; have n1_ : Aside0 (Below w.heap.size w wr) := ⟨by rw [← hq_]; exact b_now⟩; clear HO_5 HB hq_; have HO_5 := n0_; have HB := n1_; clear n0_ n1_))) | ((with_reducible refine gate_callee (f := 38) rfl ?_); refine sh_call (some 27) Tryd.func38 #[.string t229] ?_; (with_reducible refine (rule_rule.calls k1 t229 t232 t235 t236 _ ?side1 A5.out).mono ?_); (case side1 => repeat (first | exact (Kd.C_below HRG0.out HB.out) | (with_reducible refine Kd.C_alloc ?_ _) | (with_reducible refine Kd.C_drewN ?_ _) | (with_reducible refine Kd.C_drew ?_))); rintro e w7 ⟨v233, rfl, ho0, hb⟩; refine ⟨_, rfl, ?_⟩; have HO234 := Aside0.mk (Kd.R_lower ho0 (below_size b_now)); replace HO_5 := Aside0.mk (Kd.S_elder' (by (with_reducible repeat (first | apply Kd.S_alloc | apply Kd.S_drewN | apply Kd.S_drew)); exact HO_5.out) (Kd.R_base ho0) hb); replace HB := sh_b (w := w) hb; (try clear hb); (try clear hb2); (try clear hk); (try clear hi); (try clear ho0)) | ((with_reducible refine gate_dst (N := 10) rfl ?_); refine sh_box 10 #[.slice none 0 0, .int .u32 0] 53 ?_; intro gb237 hg w8 hbox hb; have GE237 := sh_z (w := w) hg; replace HO_5 := Aside0.mk (Kd.S_below (Kd.S_elderB (by (with_reducible repeat (first | apply Kd.S_alloc | apply Kd.S_drewN | apply Kd.S_drew)); exact HO_5.out) gb237 (Nat.le_of_eq hg.symm)) hb); replace HO234 := Aside0.mk (Kd.R_below (by (with_reducible repeat (first | apply Kd.R_alloc | apply Kd.R_drewN | apply Kd.R_drew)); exact HO234.out) hb); replace HB := sh_b (w := w) hb; have BK237 := Aside0.mk (hbox); clear hb hbox hg; obtain ⟨Ao9, co9, eo9⟩ := Kd.R_slice HO234.out; subst eo9; have hcz10 := blk_all2 BK237.out))
     (try simp only [Act.put, List.setIfInBounds_toArray, List.set_cons_zero, List.set_cons_succ])
     go_cut [30] (fun v30 wc => ∃ (kq : Nat) (x30_5 : Bool), v30 = .bool x30_5 ∧ Aside0 (rule_Parse.j1 kq x5_1 x6_1 t230 x30_5 t232 t235 = some (r1, r2, r3)) ∧ Aside0 (kq ≤ k1) ∧ Aside0 (Kd.S k53 53 wc w.heap.size (fun k_ => some k_ ≠ ((.slice Ao9 t232.length co9) : Value).ownBlock ∧ k_ ≠ gb237) u5 x5_1) ∧ Aside0 (Kd.R k50 50 wc w.heap.size (fun _ => True) (.slice Ao9 t232.length co9) t232) ∧ Aside0 (wc.heap[gb237]? = some (.cells #[(.slice Ao9 t232.length co9), .int .u32 t235] 53 (0, 0))) ∧ Aside0 (Below w.heap.size w wc))
     case first =>
      have H := HC6.out
      clear HC6
      by_cases c11 : t236 = true
      ·subst c11
       replace H := sh_t H
       have H' := Aside0.mk H
       clear H
       go_wp2
       go_meet
       case rel => exact ⟨_, (!t231), eq_now, H', ⟨by have := HK1.out; first | omega | exact Nat.le_refl _⟩, ⟨by (with_reducible repeat (first | apply Kd.S_alloc | apply Kd.S_drewN | apply Kd.S_drew)); exact Kd.S_mono (Kd.S_far (p := ⟨gb237, 1, none⟩) (Kd.S_far (p := ⟨gb237, 0, none⟩) (Kd.S_mono HO_5.out (fun k_ hk => (⟨hk, hk.2⟩ : _ ∧ k_ ≠ gb237))) (fun _ hk => hk.2) (.slice Ao9 t232.length co9)) (fun _ hk => hk.2) (.int .u32 t235)) (fun _ hk => ⟨hk.1.1.2, hk.1.2⟩)⟩, ⟨by (with_reducible repeat (first | apply Kd.R_alloc | apply Kd.R_drewN | apply Kd.R_drew)); exact Kd.R_mono (Kd.R_far (p := ⟨gb237, 1, none⟩) (Kd.R_far (p := ⟨gb237, 0, none⟩) (Kd.R_types HO234.out BK237.out (by decide)) (fun _ hk => hk.2) (.slice Ao9 t232.length co9)) (fun _ hk => hk.2) (.int .u32 t235)) (fun _ hk => trivial)⟩, ⟨bk_now⟩, ⟨b_now⟩⟩
      ·replace c11 := Bool.eq_false_iff.mpr c11
       subst c11
       replace H := sh_f H
       have H' := Aside0.mk H
       clear H
       go_wp2
       go_meet
       case rel => exact ⟨_, (true), eq_now, H', ⟨by have := HK1.out; first | omega | exact Nat.le_refl _⟩, ⟨by (with_reducible repeat (first | apply Kd.S_alloc | apply Kd.S_drewN | apply Kd.S_drew)); exact Kd.S_mono (Kd.S_far (p := ⟨gb237, 1, none⟩) (Kd.S_far (p := ⟨gb237, 0, none⟩) (Kd.S_mono HO_5.out (fun k_ hk => (⟨hk, hk.2⟩ : _ ∧ k_ ≠ gb237))) (fun _ hk => hk.2) (.slice Ao9 t232.length co9)) (fun _ hk => hk.2) (.int .u32 t235)) (fun _ hk => ⟨hk.1.1.2, hk.1.2⟩)⟩, ⟨by (with_reducible repeat (first | apply Kd.R_alloc | apply Kd.R_drewN | apply Kd.R_drew)); exact Kd.R_mono (Kd.R_far (p := ⟨gb237, 1, none⟩) (Kd.R_far (p := ⟨gb237, 0, none⟩) (Kd.R_types HO234.out BK237.out (by decide)) (fun _ hk => hk.2) (.slice Ao9 t232.length co9)) (fun _ hk => hk.2) (.int .u32 t235)) (fun _ hk => trivial)⟩, ⟨bk_now⟩, ⟨b_now⟩⟩
     case rest =>
      clear HC6
      clear c3 c3b0 c3b1 hcz10
      obtain ⟨kq, x30_5, rfl, HA, HJ5, HO_5, HO_238000, BK237, HB⟩ := hcut
      cases kq with
      | zero => exact absurd HA.out (by simp [rule_Parse.j1])
      | succ kj5 =>
       have H := HA.out
       clear HA
       simp only [rule_Parse.j1] at H
       by_cases c12 : x30_5 = true
       ·subst c12
        replace H := sh_t H
        simp only [Option.some.injEq, Prod.mk.injEq] at H
        obtain ⟨rfl, rfl, rfl⟩ := H
        go_wp2
        go_ret3
        exact ⟨_, ret_now, by first | exact Kd.S_nil _ _ _ _ _ | exact Kd.N_nil _ _ _ _ _ | exact Kd.V_nil _ _ _ _ _ | exact Kd.Q_nil _ _ _ _ _ | exact Kd.R_nil _ _ _ _ _, b_now⟩
       ·replace c12 := Bool.eq_false_iff.mpr c12
        subst c12
        replace H := sh_f H
        by_cases c13 : x6_1 > 32
        ·rw [if_pos c13] at H
         have c13b0 : decide (32 < x6_1) = true := decide_eq_true c13
         clear c13
         simp only [Option.some.injEq, Prod.mk.injEq] at H
         obtain ⟨rfl, rfl, rfl⟩ := H
         go_wp2
         go_ret3
         exact ⟨_, ret_now, by first | exact Kd.S_nil _ _ _ _ _ | exact Kd.N_nil _ _ _ _ _ | exact Kd.V_nil _ _ _ _ _ | exact Kd.Q_nil _ _ _ _ _ | exact Kd.R_nil _ _ _ _ _, b_now⟩
        ·rw [if_neg c13] at H
         have c13b0 : decide (32 < x6_1) = false := decide_eq_false c13
         clear c13
         by_cases c14 : x5_1.length < 4398046511104
         ·rw [if_pos c14] at H
          have LMc14 := Aside0.mk c14
          clear c14
          obtain ⟨y238, hy238⟩ : ∃ y_ : List (S53), y_ = (x5_1 ++ [(⟨t232, t235⟩ : S53)]) := ⟨_, rfl⟩
          replace H : (rule_Parse.l0 kj5 t230 y238 (wrap64 (x6_1 + 1))) = some (r1, r2, r3) := by first | (rw [hy238]; with_reducible exact H) | (have H2_ := (Option.bind_some _ _).symm.trans H; rw [hy238]; with_reducible exact H2_) | (have H2_ := (Option.bind_some _ _).symm.trans H; with_reducible exact H2_) | with_reducible exact H | (rw [hy238]; exact H) | exact H
          have Ny238 := Aside0.mk hy238
          clear hy238
          have H' := Aside0.mk H
          clear H
          have hcz15 := blk_all2 BK237.out
          go_wp2_with (first | ((with_reducible refine gate_builtin (b := .append) (xs := #[.tmp 42, .tmp 44]) rfl ?_); at_builtin; refine Kd.S_append k53 (w0 := w) w.heap.size rfl (.tmp 42) (.tmp 44) 25 53 (.agg #[(.slice none 0 0), (.int .u32 0)]) 32 rfl Tryd.underlying25 info53 rfl (by decide) (by omega) u5 x5_1 (⟨t232, t235⟩ : S53) [.slice Ao9 t232.length co9, .int .u32 t235] (fun k_ => k_ ≠ gb237) (fun k_ => some k_ = (.slice Ao9 t232.length co9 : Value).ownBlock) rfl rfl ?aP (fun k_ hk_ => ((Kd.R_mono (ok' := fun k_ => ((fun k_ => k_ ≠ gb237)) k_ ∧ some k_ ≠ (u5 : Value).ownBlock) (Kd.R_types (Kd.R_apart' (HO_238000.out) (Kd.S_typed HO_5.out) (by decide)) BK237.out (by decide)) (fun k_ hk => ⟨hk.2, hk.1.2⟩))).1 k_ hk_.symm) ?aF ?aO ?aB ?aS ?aL ?_; (case aP => exact k53_mkM _ _ _ (⟨t232, t235⟩ : S53) (Kd.R_mono (Kd.R_tight rfl (Kd.R_mono (ok' := fun k_ => ((fun k_ => k_ ≠ gb237)) k_ ∧ some k_ ≠ (u5 : Value).ownBlock) (Kd.R_types (Kd.R_apart' (HO_238000.out) (Kd.S_typed HO_5.out) (by decide)) BK237.out (by decide)) (fun k_ hk => ⟨hk.2, hk.1.2⟩))) (fun _ h_ => h_))); (case aB => exact b_now); (case aF => exact (fun k_ hk => Kd.freshB (g := gb237) (o := .cells #[.slice Ao9 t232.length co9, .int .u32 t235] 53 (0, 0)) bk_now k_ hk)); (case aO => exact (by (with_reducible repeat (first | apply Kd.S_alloc | apply Kd.S_drewN | apply Kd.S_drew)); exact Kd.S_mono HO_5.out (fun k_ hk => ⟨hk.2, fun e_ => hk.1 e_⟩))); (case aS => exact (below_size b_now)); (case aL => have := LMc14.out; omega); intro v239 w16 ho hb hg hat; rw [← Ny238.out] at ho; have n0_ := Aside0.mk (blk_grown (g := gb237) (o := .cells #[.slice Ao9 t232.length co9, .int .u32 t235] 53 (0, 0)) bk_now hg (Kd.S_away HO_5.out (fun _ hk => hk.2))); have n1_ := Aside0.mk (hb); have n2_ := Aside0.mk (ho); clear BK237; clear HB; clear HO_5; clear HO_238000; have BK237 := n0_; have HB := n1_; have HO240 := n2_; clear n0_ n1_ n2_; clear ho hb hg hat))
          go_roundg kj5
          case measure => have := HK1.out; have := HJ5.out; omega
          case rel => exact ⟨(t230), (y238), (wrap64 (x6_1 + 1)), eq_now, eq_now, H', ⟨by have := HK1.out; have := HJ5.out; omega⟩, ⟨by (with_reducible repeat (first | apply Kd.S_alloc | apply Kd.S_drewN | apply Kd.S_drew)); exact Kd.S_mono HO240.out (fun _ hk => trivial)⟩, ⟨b_now⟩⟩
         ·rw [if_neg c14] at H
          exact absurd H (by simp)

/-! ### rule_Ether: function 25 -/
def rule_Ether.f (a0 : Int) : Option (Bool × Int × Int × Int × Int × Int × Int) := some (false, 3, 12, 2, 65535, IntKind.u64.wrap (a0), IntKind.u64.wrap (a0))
set_option maxHeartbeats 8000000 in
set_option maxRecDepth 100000 in
theorem rule_Ether.calls (a0 : Int) (r1 : Bool) (r2 : Int) (r3 : Int) (r4 : Int) (r5 : Int) (r6 : Int) (r7 : Int) (w : World) (h : rule_Ether.f a0 = some (r1, r2, r3, r4, r5, r6, r7)) :
  Calls Tryd.prog 25 #[.int .u16 a0] w fun e w' => e = .returned (.agg #[.bool r1, .int .i64 r2, .int .i64 r3, .int .i64 r4, .int .u64 r5, .int .u64 r6, .int .u64 r7]) ∧ Below w.heap.size w w' := by
 have hu50 := Tryd.underlying50
 have HB := Aside0.mk (Below.refl w.heap.size w)
 have H : (some (false, 3, 12, 2, 65535, IntKind.u64.wrap (a0), IntKind.u64.wrap (a0))) = some (r1, r2, r3, r4, r5, r6, r7) := h
 clear h
 simp only [Option.some.injEq, Prod.mk.injEq] at H
 obtain ⟨rfl, rfl, rfl, rfl, rfl, rfl, rfl⟩ := H
 go_enter Tryd.func25, Tryd.ntmps25
 go_wp2_with (first | ((with_reducible refine gate_dst (N := 2) rfl ?_); refine sh_box 2 #[.bool false, .int .i64 0, .int .i64 0, .int .i64 0, .int .u64 0, .int .u64 0, .int .u64 0] 50 ?_; intro gb241 hg w2 hbox hb; have GE241 := sh_z (w := w) hg; replace HB := sh_b (w := w) hb; have BK241 := Aside0.mk (hbox); clear hb hbox hg; have hcz3 := blk_all7 BK241.out))
 refine bodyPost_ret (results_cell_row rfl _ _ gb241 50 #[.bool false, .int .i64 3, .int .i64 12, .int .i64 2, .int .u64 65535, .int .u64 (IntKind.u64.wrap (a0)), .int .u64 (IntKind.u64.wrap (a0))] (0, 0) _ rfl bk_now Tryd.underlying50 rfl (by kernel_rfl)) rfl ?_
 exact ⟨ret_now, b_now⟩

/-! ### rule_ports: function 41 -/
def rule_ports.f (a0 : Int) (a1 : Int) (a2 : Int) : Option (Bool × Int × Int × Int × Int × Int × Int) := some (false, 4, a0, 2, 65535, IntKind.u64.wrap (mn a1 a2), IntKind.u64.wrap (mx a1 a2))
set_option maxHeartbeats 8000000 in
set_option maxRecDepth 100000 in
theorem rule_ports.calls (a0 : Int) (a1 : Int) (a2 : Int) (r1 : Bool) (r2 : Int) (r3 : Int) (r4 : Int) (r5 : Int) (r6 : Int) (r7 : Int) (w : World) (h : rule_ports.f a0 a1 a2 = some (r1, r2, r3, r4, r5, r6, r7)) :
  Calls Tryd.prog 41 #[.int .i64 a0, .int .u16 a1, .int .u16 a2] w fun e w' => e = .returned (.agg #[.bool r1, .int .i64 r2, .int .i64 r3, .int .i64 r4, .int .u64 r5, .int .u64 r6, .int .u64 r7]) ∧ Below w.heap.size w w' := by
 have hu50 := Tryd.underlying50
 have HB := Aside0.mk (Below.refl w.heap.size w)
 have H : (some (false, 4, a0, 2, 65535, IntKind.u64.wrap (mn a1 a2), IntKind.u64.wrap (mx a1 a2))) = some (r1, r2, r3, r4, r5, r6, r7) := h
 clear h
 obtain ⟨ji4, hji4⟩ : ∃ j_ : Int, (mn a1 a2) = j_ := ⟨_, rfl⟩
 replace H : (some (false, 4, a0, 2, 65535, IntKind.u64.wrap (ji4), IntKind.u64.wrap (mx a1 a2))) = some (r1, r2, r3, r4, r5, r6, r7) := by first | (rw [hji4] at H; exact H) | (simp only [hji4] at H ⊢; exact H)
 have hji4_ : (if a2 < a1 then a2 else a1) = ji4 := hji4
 obtain ⟨ji5, hji5⟩ : ∃ j_ : Int, (mx a1 a2) = j_ := ⟨_, rfl⟩
 replace H : (some (false, 4, a0, 2, 65535, IntKind.u64.wrap (ji4), IntKind.u64.wrap (ji5))) = some (r1, r2, r3, r4, r5, r6, r7) := by first | (rw [hji5] at H; exact H) | (simp only [hji5] at H ⊢; exact H)
 have hji5_ : (if a1 < a2 then a2 else a1) = ji5 := hji5
 simp only [Option.some.injEq, Prod.mk.injEq] at H
 obtain ⟨rfl, rfl, rfl, rfl, rfl, rfl, rfl⟩ := H
 go_enter Tryd.func41, Tryd.ntmps41
 go_wp2_with (first | ((with_reducible refine gate_dst (N := 6) rfl ?_); refine sh_box 6 #[.bool false, .int .i64 0, .int .i64 0, .int .i64 0, .int .u64 0, .int .u64 0, .int .u64 0] 50 ?_; intro gb242 hg w6 hbox hb; have GE242 := sh_z (w := w) hg; replace HB := sh_b (w := w) hb; have BK242 := Aside0.mk (hbox); clear hb hbox hg; have hcz7 := blk_all7 BK242.out))
 refine bodyPost_ret (results_cell_row rfl _ _ gb242 50 #[.bool false, .int .i64 4, .int .i64 a0, .int .i64 2, .int .u64 65535, .int .u64 (IntKind.u64.wrap (ji4)), .int .u64 (IntKind.u64.wrap (ji5))] (0, 0) _ rfl bk_now Tryd.underlying50 rfl (by kernel_rfl)) rfl ?_
 exact ⟨by first | rfl | (simp [errW_none, errW_some] <;> rfl) | (simp only [← hji4, ← hji5]; first | rfl | (simp [errW_none, errW_some] <;> rfl)) | (simp [*, errW_none, errW_some] <;> rfl), b_now⟩

/-! ### rule_Dport: function 26 -/
def rule_Dport.f (a0 : Int) (a1 : Int) : Option (Bool × Int × Int × Int × Int × Int × Int) := (rule_ports.f 2 a0 a1).bind fun bt244 => (some (bt244.1, bt244.2.1, bt244.2.2.1, bt244.2.2.2.1, bt244.2.2.2.2.1, bt244.2.2.2.2.2.1, bt244.2.2.2.2.2.2))
set_option maxHeartbeats 8000000 in
set_option maxRecDepth 100000 in
theorem rule_Dport.calls (a0 : Int) (a1 : Int) (r1 : Bool) (r2 : Int) (r3 : Int) (r4 : Int) (r5 : Int) (r6 : Int) (r7 : Int) (w : World) (h : rule_Dport.f a0 a1 = some (r1, r2, r3, r4, r5, r6, r7)) :
  Calls Tryd.prog 26 #[.int .u16 a0, .int .u16 a1] w fun e w' => e = .returned (.agg #[.bool r1, .int .i64 r2, .int .i64 r3, .int .i64 r4, .int .u64 r5, .int .u64 r6, .int .u64 r7]) ∧ Below w.heap.size w w' := by
 have hu50 := Tryd.underlying50
 have HB := Aside0.mk (Below.refl w.heap.size w)
 have H : ((rule_ports.f 2 a0 a1).bind fun bt244 => (some (bt244.1, bt244.2.1, bt244.2.2.1, bt244.2.2.2.1, bt244.2.2.2.2.1, bt244.2.2.2.2.2.1, bt244.2.2.2.2.2.2))) = some (r1, r2, r3, r4, r5, r6, r7) := h
 clear h
 replace H := Option.bind_eq_some_iff.mp H; obtain ⟨⟨t244, t245, t246, t247, t248, t249, t250⟩, A30, H⟩ := H; try dsimp only at H
 have A3 := Aside0.mk A30
 clear A30
 simp only [Option.some.injEq, Prod.mk.injEq] at H
 obtain ⟨rfl, rfl, rfl, rfl, rfl, rfl, rfl⟩ := H
 go_enter Tryd.func26, Tryd.ntmps26
 go_wp2_with (first | ((with_reducible refine gate_dst (N := 4) rfl ?_); refine sh_box 4 #[.bool false, .int .i64 0, .int .i64 0, .int .i64 0, .int .u64 0, .int .u64 0, .int .u64 0] 50 ?_; intro gb243 hg w4 hbox hb; have GE243 := sh_z (w := w) hg; replace HB := sh_b (w := w) hb; have BK243 := Aside0.mk (hbox); clear hb hbox hg) | ((with_reducible refine gate_callee (f := 41) rfl ?_); refine sh_call (some 7) Tryd.func41 #[.int .i64 2, .int .u16 a0, .int .u16 a1] ?_; (with_reducible refine (rule_ports.calls 2 a0 a1 t244 t245 t246 t247 t248 t249 t250 _ A3.out).mono ?_); rintro e w5 ⟨rfl, hb⟩; refine ⟨_, rfl, ?_⟩; replace BK243 := sh_k BK243 hb; replace HB := sh_b (w := w) hb; (try clear hb); (try clear hb2); (try clear hk); (try clear hi); have hcz6 := blk_all7 BK243.out))
 refine bodyPost_ret (results_cell_row rfl _ _ gb243 50 #[.bool t244, .int .i64 t245, .int .i64 t246, .int .i64 t247, .int .u64 t248, .int .u64 t249, .int .u64 t250] (0, 0) _ rfl bk_now Tryd.underlying50 rfl (by kernel_rfl)) rfl ?_
 exact ⟨ret_now, b_now⟩

/-! ### stockadelaw18_wakes: function 11 -/
def stockadelaw18_wakes.f (k : Nat)  : Option (Bool) := (rule_Ether.f 2048).bind fun bt251 => ((rule_Dport.f 80 80).bind fun bt258 => ((rule_Print.f k (([(⟨(([(⟨bt251.1, bt251.2.1, bt251.2.2.1, bt251.2.2.2.1, bt251.2.2.2.2.1, bt251.2.2.2.2.2.1, bt251.2.2.2.2.2.2⟩ : S50), (⟨bt258.1, bt258.2.1, bt258.2.2.1, bt258.2.2.2.1, bt258.2.2.2.2.1, bt258.2.2.2.2.2.1, bt258.2.2.2.2.2.2⟩ : S50)] : List (S50))), 7⟩ : S53), (⟨([] : List (S50)), 0⟩ : S53)] : List (S53)))).bind fun bt271 => ((rule_Parse.f k (⟨#[105, 110, 32, 49, 46, 46, 49, 32, 45, 62, 32, 53, 10, 97, 110, 121, 32, 45, 62, 32, 54, 10]⟩ : ByteArray)).bind fun bt273 => ((rule_Judge.f k bt273.1 ([] : List Int) 2).bind fun bt278 => ((rule_Parse.f k (⟨#[97, 110, 121, 32, 45, 62, 32, 48, 49, 10]⟩ : ByteArray)).bind fun bt280 => (if bt271.2 = 0 then (if bt271.1.toList = ([117, 49, 54, 64, 49, 50, 32, 50, 48, 52, 56, 46, 46, 50, 48, 52, 56, 44, 32, 112, 97, 115, 116, 32, 117, 49, 54, 64, 50, 32, 56, 48, 46, 46, 56, 48, 32, 45, 62, 32, 55, 10, 97, 110, 121, 32, 45, 62, 32, 48, 10] : List UInt8) then (if bt273.2.1 = 0 then (if bt273.2.2 = 0 then (if bt278.1 = 6 then (if bt278.2 = 1 then (if bt280.2.2 = 5 then (some (bt280.2.1 == 1)) else (some false)) else (some false)) else (some false)) else (some false)) else (some false)) else (some false)) else (some false)))))))
theorem stockadelaw18_wakes.mono : ∀ k, LeO (stockadelaw18_wakes.f k ) (stockadelaw18_wakes.f (k + 1) ) := by
 intro  k
 unfold stockadelaw18_wakes.f
 repeat' first
   | (with_reducible exact rule_Judge.mono _ _ _ _)
   | (with_reducible exact rule_Parse.mono _ _)
   | (with_reducible exact rule_Print.mono _ _)
   | (with_reducible exact LeO.refl _)
   | (with_reducible exact LeO.none _)
   | (with_reducible refine LeO.ite ?_ ?_)
   | (with_reducible refine LeO.bind ?_ (fun _ => ?_))
   | exact rule_Judge.mono _ _ _ _
   | exact rule_Parse.mono _ _
   | exact rule_Print.mono _ _
   | exact LeO.none _
   | refine LeO.ite ?_ ?_
   | refine LeO.bind ?_ (fun _ => ?_)
set_option maxHeartbeats 8000000 in
set_option maxRecDepth 100000 in
theorem stockadelaw18_wakes.calls (k : Nat)  (r : Bool) (w : World) (hrG0 : Kd.C kGF w (some ⟨0, 0, none⟩) gl0.length gl0) (hr_ : r = true) (h : stockadelaw18_wakes.f k  = some r) :
  Calls Tryd.prog 11 #[] w fun e w' => e = .returned (.bool r) ∧ Below w.heap.size w w' := by
 have hu53 := Tryd.underlying53
 have HRG0 := Aside0.mk hrG0
 clear hrG0
 have HRT := Aside0.mk hr_
 clear hr_
 have HB := Aside0.mk (Below.refl w.heap.size w)
 have H : ((rule_Ether.f 2048).bind fun bt251 => ((rule_Dport.f 80 80).bind fun bt258 => ((rule_Print.f k (([(⟨(([(⟨bt251.1, bt251.2.1, bt251.2.2.1, bt251.2.2.2.1, bt251.2.2.2.2.1, bt251.2.2.2.2.2.1, bt251.2.2.2.2.2.2⟩ : S50), (⟨bt258.1, bt258.2.1, bt258.2.2.1, bt258.2.2.2.1, bt258.2.2.2.2.1, bt258.2.2.2.2.2.1, bt258.2.2.2.2.2.2⟩ : S50)] : List (S50))), 7⟩ : S53), (⟨([] : List (S50)), 0⟩ : S53)] : List (S53)))).bind fun bt271 => ((rule_Parse.f k (⟨#[105, 110, 32, 49, 46, 46, 49, 32, 45, 62, 32, 53, 10, 97, 110, 121, 32, 45, 62, 32, 54, 10]⟩ : ByteArray)).bind fun bt273 => ((rule_Judge.f k bt273.1 ([] : List Int) 2).bind fun bt278 => ((rule_Parse.f k (⟨#[97, 110, 121, 32, 45, 62, 32, 48, 49, 10]⟩ : ByteArray)).bind fun bt280 => (if bt271.2 = 0 then (if bt271.1.toList = ([117, 49, 54, 64, 49, 50, 32, 50, 48, 52, 56, 46, 46, 50, 48, 52, 56, 44, 32, 112, 97, 115, 116, 32, 117, 49, 54, 64, 50, 32, 56, 48, 46, 46, 56, 48, 32, 45, 62, 32, 55, 10, 97, 110, 121, 32, 45, 62, 32, 48, 10] : List UInt8) then (if bt273.2.1 = 0 then (if bt273.2.2 = 0 then (if bt278.1 = 6 then (if bt278.2 = 1 then (if bt280.2.2 = 5 then (some (bt280.2.1 == 1)) else (some false)) else (some false)) else (some false)) else (some false)) else (some false)) else (some false)) else (some false)))))))) = some r := h
 clear h
 replace H := Option.bind_eq_some_iff.mp H; obtain ⟨⟨t251, t252, t253, t254, t255, t256, t257⟩, A10, H⟩ := H; try dsimp only at H
 have A1 := Aside0.mk A10
 clear A10
 replace H := Option.bind_eq_some_iff.mp H; obtain ⟨⟨t258, t259, t260, t261, t262, t263, t264⟩, A20, H⟩ := H; try dsimp only at H
 have A2 := Aside0.mk A20
 clear A20
 obtain ⟨y265, hy265⟩ : ∃ y_ : List (S50), y_ = (([(⟨t251, t252, t253, t254, t255, t256, t257⟩ : S50), (⟨t258, t259, t260, t261, t262, t263, t264⟩ : S50)] : List (S50))) := ⟨_, rfl⟩
 replace H : ((rule_Print.f k (([(⟨y265, 7⟩ : S53), (⟨([] : List (S50)), 0⟩ : S53)] : List (S53)))).bind fun bt271 => ((rule_Parse.f k (⟨#[105, 110, 32, 49, 46, 46, 49, 32, 45, 62, 32, 53, 10, 97, 110, 121, 32, 45, 62, 32, 54, 10]⟩ : ByteArray)).bind fun bt273 => ((rule_Judge.f k bt273.1 ([] : List Int) 2).bind fun bt278 => ((rule_Parse.f k (⟨#[97, 110, 121, 32, 45, 62, 32, 48, 49, 10]⟩ : ByteArray)).bind fun bt280 => (if bt271.2 = 0 then (if bt271.1.toList = ([117, 49, 54, 64, 49, 50, 32, 50, 48, 52, 56, 46, 46, 50, 48, 52, 56, 44, 32, 112, 97, 115, 116, 32, 117, 49, 54, 64, 50, 32, 56, 48, 46, 46, 56, 48, 32, 45, 62, 32, 55, 10, 97, 110, 121, 32, 45, 62, 32, 48, 10] : List UInt8) then (if bt273.2.1 = 0 then (if bt273.2.2 = 0 then (if bt278.1 = 6 then (if bt278.2 = 1 then (if bt280.2.2 = 5 then (some (bt280.2.1 == 1)) else (some false)) else (some false)) else (some false)) else (some false)) else (some false)) else (some false)) else (some false)))))) = some r := by first | (rw [hy265]; with_reducible exact H) | (have H2_ := (Option.bind_some _ _).symm.trans H; rw [hy265]; with_reducible exact H2_) | (have H2_ := (Option.bind_some _ _).symm.trans H; with_reducible exact H2_) | with_reducible exact H | (rw [hy265]; exact H) | exact H
 have Ny265 := Aside0.mk hy265
 clear hy265
 obtain ⟨y268, hy268⟩ : ∃ y_ : List (S53), y_ = (([(⟨y265, 7⟩ : S53), (⟨([] : List (S50)), 0⟩ : S53)] : List (S53))) := ⟨_, rfl⟩
 replace H : ((rule_Print.f k y268).bind fun bt271 => ((rule_Parse.f k (⟨#[105, 110, 32, 49, 46, 46, 49, 32, 45, 62, 32, 53, 10, 97, 110, 121, 32, 45, 62, 32, 54, 10]⟩ : ByteArray)).bind fun bt273 => ((rule_Judge.f k bt273.1 ([] : List Int) 2).bind fun bt278 => ((rule_Parse.f k (⟨#[97, 110, 121, 32, 45, 62, 32, 48, 49, 10]⟩ : ByteArray)).bind fun bt280 => (if bt271.2 = 0 then (if bt271.1.toList = ([117, 49, 54, 64, 49, 50, 32, 50, 48, 52, 56, 46, 46, 50, 48, 52, 56, 44, 32, 112, 97, 115, 116, 32, 117, 49, 54, 64, 50, 32, 56, 48, 46, 46, 56, 48, 32, 45, 62, 32, 55, 10, 97, 110, 121, 32, 45, 62, 32, 48, 10] : List UInt8) then (if bt273.2.1 = 0 then (if bt273.2.2 = 0 then (if bt278.1 = 6 then (if bt278.2 = 1 then (if bt280.2.2 = 5 then (some (bt280.2.1 == 1)) else (some false)) else (some false)) else (some false)) else (some false)) else (some false)) else (some false)) else (some false)))))) = some r := by first | (rw [hy268]; with_reducible exact H) | (have H2_ := (Option.bind_some _ _).symm.trans H; rw [hy268]; with_reducible exact H2_) | (have H2_ := (Option.bind_some _ _).symm.trans H; with_reducible exact H2_) | with_reducible exact H | (rw [hy268]; exact H) | exact H
 have Ny268 := Aside0.mk hy268
 clear hy268
 replace H := Option.bind_eq_some_iff.mp H; obtain ⟨⟨t271, t272⟩, A30, H⟩ := H; try dsimp only at H
 have A3 := Aside0.mk A30
 clear A30
 replace H := Option.bind_eq_some_iff.mp H; obtain ⟨⟨t273, t274, t275⟩, A40, H⟩ := H; try dsimp only at H
 have A4 := Aside0.mk A40
 clear A40
 replace H := Option.bind_eq_some_iff.mp H; obtain ⟨⟨t278, t279⟩, A50, H⟩ := H; try dsimp only at H
 have A5 := Aside0.mk A50
 clear A50
 replace H := Option.bind_eq_some_iff.mp H; obtain ⟨⟨t280, t281, t282⟩, A60, H⟩ := H; try dsimp only at H
 have A6 := Aside0.mk A60
 clear A60
 by_cases c7 : t272 = 0
 ·rw [if_pos c7] at H
  have c7b0 : (t272 == 0) = true := beq_iff_eq.mpr c7
  have c7b1 : (t272 != 0) = false := bne_eq_false_iff_eq.mpr c7
  clear c7
  by_cases c8 : t271.toList = ([117, 49, 54, 64, 49, 50, 32, 50, 48, 52, 56, 46, 46, 50, 48, 52, 56, 44, 32, 112, 97, 115, 116, 32, 117, 49, 54, 64, 50, 32, 56, 48, 46, 46, 56, 48, 32, 45, 62, 32, 55, 10, 97, 110, 121, 32, 45, 62, 32, 48, 10] : List UInt8)
  ·rw [if_pos c8] at H
   have c8b0 : (t271.toList == ([117, 49, 54, 64, 49, 50, 32, 50, 48, 52, 56, 46, 46, 50, 48, 52, 56, 44, 32, 112, 97, 115, 116, 32, 117, 49, 54, 64, 50, 32, 56, 48, 46, 46, 56, 48, 32, 45, 62, 32, 55, 10, 97, 110, 121, 32, 45, 62, 32, 48, 10] : List UInt8)) = true := beq_iff_eq.mpr c8
   have c8b1 : (t271.toList != ([117, 49, 54, 64, 49, 50, 32, 50, 48, 52, 56, 46, 46, 50, 48, 52, 56, 44, 32, 112, 97, 115, 116, 32, 117, 49, 54, 64, 50, 32, 56, 48, 46, 46, 56, 48, 32, 45, 62, 32, 55, 10, 97, 110, 121, 32, 45, 62, 32, 48, 10] : List UInt8)) = false := bne_eq_false_iff_eq.mpr c8
   clear c8
   by_cases c9 : t274 = 0
   ·rw [if_pos c9] at H
    have c9b0 : (t274 == 0) = true := beq_iff_eq.mpr c9
    have c9b1 : (t274 != 0) = false := bne_eq_false_iff_eq.mpr c9
    clear c9
    by_cases c10 : t275 = 0
    ·rw [if_pos c10] at H
     have c10b0 : (t275 == 0) = true := beq_iff_eq.mpr c10
     have c10b1 : (t275 != 0) = false := bne_eq_false_iff_eq.mpr c10
     clear c10
     by_cases c11 : t278 = 6
     ·rw [if_pos c11] at H
      have c11b0 : (t278 == 6) = true := beq_iff_eq.mpr c11
      have c11b1 : (t278 != 6) = false := bne_eq_false_iff_eq.mpr c11
      clear c11
      by_cases c12 : t279 = 1
      ·rw [if_pos c12] at H
       have c12b0 : (t279 == 1) = true := beq_iff_eq.mpr c12
       have c12b1 : (t279 != 1) = false := bne_eq_false_iff_eq.mpr c12
       clear c12
       by_cases c13 : t282 = 5
       ·rw [if_pos c13] at H
        have c13b0 : (t282 == 5) = true := beq_iff_eq.mpr c13
        have c13b1 : (t282 != 5) = false := bne_eq_false_iff_eq.mpr c13
        clear c13
        obtain rfl := Option.some.inj H
        go_enter Tryd.func11, Tryd.ntmps11
        go_wp2_with (first | ((with_reducible refine gate_callee (f := 25) rfl ?_); refine sh_call (some 12) Tryd.func25 #[.int .u16 2048] ?_; (with_reducible refine (rule_Ether.calls 2048 t251 t252 t253 t254 t255 t256 t257 _ A1.out).mono ?_); rintro e w14 ⟨rfl, hb⟩; refine ⟨_, rfl, ?_⟩; replace HB := sh_b (w := w) hb; (try clear hb); (try clear hb2); (try clear hk); (try clear hi)) | ((with_reducible refine gate_callee (f := 26) rfl ?_); refine sh_call (some 13) Tryd.func26 #[.int .u16 80, .int .u16 80] ?_; (with_reducible refine (rule_Dport.calls 80 80 t258 t259 t260 t261 t262 t263 t264 _ A2.out).mono ?_); rintro e w15 ⟨rfl, hb⟩; refine ⟨_, rfl, ?_⟩; replace HB := sh_b (w := w) hb; (try clear hb); (try clear hb2); (try clear hk); (try clear hi)) | ((with_reducible refine gate_dst (N := 14) rfl ?_); refine Kd.R_lit k50 _ 50 ?hg (N := 14) ?hd (xs := ([(⟨t251, t252, t253, t254, t255, t256, t257⟩ : S50), (⟨t258, t259, t260, t261, t262, t263, t264⟩ : S50)] : List (S50))) (inner := [.bool t251, .int .i64 t252, .int .i64 t253, .int .i64 t254, .int .u64 t255, .int .u64 t256, .int .u64 t257, .bool t258, .int .i64 t259, .int .i64 t260, .int .i64 t261, .int .u64 t262, .int .u64 t263, .int .u64 t264]) (ok := fun _ => True) (okp := fun _ => True) ?hr ?hp (fun _ hk => hk) trivial (Below.refl _ _) (Nat.le_refl _) (by simp) ?_; (case hd => rfl); (case hg => rfl); (case hr => first | (go_simp; done) | (go_simp; rfl)); (case hp => exact (Reps.c7 (show Kd.M k50 _ _ _ (⟨t251, t252, t253, t254, t255, t256, t257⟩ : S50) [.bool t251, .int .i64 t252, .int .i64 t253, .int .i64 t254, .int .u64 t255, .int .u64 t256, .int .u64 t257] from (k50_mkM _ _ _ (⟨t251, t252, t253, t254, t255, t256, t257⟩ : S50) )) (Reps.c7 (show Kd.M k50 _ _ _ (⟨t258, t259, t260, t261, t262, t263, t264⟩ : S50) [.bool t258, .int .i64 t259, .int .i64 t260, .int .i64 t261, .int .u64 t262, .int .u64 t263, .int .u64 t264] from (k50_mkM _ _ _ (⟨t258, t259, t260, t261, t262, t263, t264⟩ : S50) )) (Reps.none _ _)))); intro v266 w16 ho17 hb hg_ hnew_; clear hg_ hnew_; (first | rw [← Ny265.out] at ho17 | (simp only [Int.reduceToNat] at ho17; rw [← Ny265.out] at ho17)); have HO267 := Aside0.mk (Kd.R_lower ho17 (below_size b_now)); replace HB := sh_b (w := w) hb; clear hb ho17; obtain ⟨Ao18, co18, eo18⟩ := Kd.R_slice HO267.out; subst eo18) | ((with_reducible refine gate_dst (N := 17) rfl ?_); refine Kd.N_lit k53 _ 53 ?hg (N' := 17) ?hd (xs := ([(⟨y265, 7⟩ : S53), (⟨([] : List (S50)), 0⟩ : S53)] : List (S53))) (inner := [.slice Ao18 y265.length co18, .int .u32 7, .slice none 0 0, .int .u32 0]) (ok := (fun _ => True)) (okp := (fun _ => True)) ?hr ?hp (fun _ hk => hk) ((show ∀ k_, w16.heap.size ≤ k_ → (fun _ => True) k_ from fun k_ hk => trivial) _ (Nat.le_refl _)) (Below.refl _ _) (Nat.le_refl _) (by simp) ?_; (case hd => rfl); (case hg => rfl); (case hr => first | (go_simp; done) | (go_simp; rfl)); (case hp => exact (Reps.c2 (show Kd.FK k53 _ _ (⟨y265, 7⟩ : S53) [.slice Ao18 y265.length co18, .int .u32 7] from (k53_mkF _ _ (⟨y265, 7⟩ : S53) (Kd.R_reads' (Kd.R_mono (ok' := (fun _ => True)) (HO267.out) (fun k_ hk => trivial))).2.1 (Kd.R_F (Kd.R_mono (ok' := (fun _ => True)) (HO267.out) (fun k_ hk => trivial))))) (Reps.c2 (show Kd.FK k53 _ _ (⟨([] : List (S50)), 0⟩ : S53) [.slice none 0 0, .int .u32 0] from (k53_mkF _ _ (⟨([] : List (S50)), 0⟩ : S53) (Nat.le_refl _) (Kd.F_nil _ _ _))) (Reps.none _ _)))); intro v269 w19 ho20 hb hg_ hnew_; clear hg_ hnew_; (first | rw [← Ny268.out] at ho20 | (simp only [Int.reduceToNat] at ho20; rw [← Ny268.out] at ho20)); have n0_ := Aside0.mk (Kd.N_lower ho20 (below_size b_now)); have n1_ := Aside0.mk (below_step b_now hb); clear HB; clear HO267; have HO270 := n0_; have HB := n1_; clear n0_ n1_; clear hb ho20; obtain ⟨Ao21, co21, eo21⟩ := Kd.N_slice HO270.out; subst eo21) | ((with_reducible refine gate_callee (f := 15) rfl ?_); refine sh_call (some 20) Tryd.func15 #[.slice Ao21 y268.length co21] ?_; (with_reducible refine (rule_Print.calls k _ _ y268 t271 t272 _ ?side1 ?side2 ?side3 A3.out).mono ?_); (case side1 => repeat (first | exact (Kd.N_reads' HO270.out).2.2 | (with_reducible refine Kd.C_alloc ?_ _) | (with_reducible refine Kd.C_drewN ?_ _) | (with_reducible refine Kd.C_drew ?_))); (case side2 => exact (Kd.N_reads' HO270.out).2.1); (case side3 => repeat (first | exact (Kd.C_below HRG0.out HB.out) | (with_reducible refine Kd.C_alloc ?_ _) | (with_reducible refine Kd.C_drewN ?_ _) | (with_reducible refine Kd.C_drew ?_))); rintro e w22 ⟨rfl, hb⟩; refine ⟨_, rfl, ?_⟩; replace HO270 := Aside0.mk (Kd.N_below (by (with_reducible repeat (first | apply Kd.N_alloc | apply Kd.N_drewN | apply Kd.N_drew)); exact HO270.out) hb); replace HB := sh_b (w := w) hb; (try clear hb); (try clear hb2); (try clear hk); (try clear hi)) | ((with_reducible refine gate_callee (f := 22) rfl ?_); refine sh_call (some 24) Tryd.func22 #[.string (⟨#[105, 110, 32, 49, 46, 46, 49, 32, 45, 62, 32, 53, 10, 97, 110, 121, 32, 45, 62, 32, 54, 10]⟩ : ByteArray)] ?_; (with_reducible refine (rule_Parse.calls k (⟨#[105, 110, 32, 49, 46, 46, 49, 32, 45, 62, 32, 53, 10, 97, 110, 121, 32, 45, 62, 32, 54, 10]⟩ : ByteArray) t273 t274 t275 _ ?side1 A4.out).mono ?_); (case side1 => repeat (first | exact (Kd.C_below HRG0.out HB.out) | (with_reducible refine Kd.C_alloc ?_ _) | (with_reducible refine Kd.C_drewN ?_ _) | (with_reducible refine Kd.C_drew ?_))); rintro e w23 ⟨v276, rfl, ho0, hb⟩; refine ⟨_, rfl, ?_⟩; have HO277 := Aside0.mk (Kd.N_lower (Kd.N_mono (ok' := fun k_ => some k_ ≠ (.slice Ao21 y268.length co21 : Value).ownBlock) (Kd.S_N (Kd.S_bound ho0)) (fun k_ hk_ => (Kd.fresh' (Kd.N_lt (by (with_reducible repeat (first | apply Kd.N_alloc | apply Kd.N_drewN | apply Kd.N_drew)); exact HO270.out)) k_ hk_.2.1))) (below_size b_now)); replace HO270 := Aside0.mk (Kd.N_elder' (by (with_reducible repeat (first | apply Kd.N_alloc | apply Kd.N_drewN | apply Kd.N_drew)); exact HO270.out) (Kd.N_base (Kd.S_N ho0)) hb); replace HB := sh_b (w := w) hb; (try clear hb); (try clear hb2); (try clear hk); (try clear hi); (try clear ho0); obtain ⟨Ao24, co24, eo24⟩ := Kd.N_slice HO277.out; subst eo24) | ((with_reducible refine gate_callee (f := 18) rfl ?_); refine sh_call (some 30) Tryd.func18 #[.slice Ao24 t273.length co24, .slice none 0 0, .int .u32 2] ?_; (refine (rule_Judge.calls k _ _ t273 _ _ ([] : List Int) 2 t278 t279 _ ?side1 ?side2 ?side3 ?side4 A5.out).mono ?_); (case side1 => repeat (first | exact (Kd.N_reads' HO277.out).2.2 | (with_reducible refine Kd.C_alloc ?_ _) | (with_reducible refine Kd.C_drewN ?_ _) | (with_reducible refine Kd.C_drew ?_))); (case side2 => exact (Kd.N_reads' HO277.out).2.1); (case side3 => exact Kd.C_nil _ _); (case side4 => exact Nat.le_refl _); rintro e w25 ⟨rfl, hb⟩; refine ⟨_, rfl, ?_⟩; replace HO270 := Aside0.mk (Kd.N_below (by (with_reducible repeat (first | apply Kd.N_alloc | apply Kd.N_drewN | apply Kd.N_drew)); exact HO270.out) hb); replace HO277 := Aside0.mk (Kd.N_below (by (with_reducible repeat (first | apply Kd.N_alloc | apply Kd.N_drewN | apply Kd.N_drew)); exact HO277.out) hb); replace HB := sh_b (w := w) hb; (try clear hb); (try clear hb2); (try clear hk); (try clear hi)) | ((with_reducible refine gate_callee (f := 22) rfl ?_); refine sh_call (some 34) Tryd.func22 #[.string (⟨#[97, 110, 121, 32, 45, 62, 32, 48, 49, 10]⟩ : ByteArray)] ?_; (with_reducible refine (rule_Parse.calls k (⟨#[97, 110, 121, 32, 45, 62, 32, 48, 49, 10]⟩ : ByteArray) t280 t281 t282 _ ?side1 A6.out).mono ?_); (case side1 => repeat (first | exact (Kd.C_below HRG0.out HB.out) | (with_reducible refine Kd.C_alloc ?_ _) | (with_reducible refine Kd.C_drewN ?_ _) | (with_reducible refine Kd.C_drew ?_))); rintro e w26 ⟨v283, rfl, ho0, hb⟩; refine ⟨_, rfl, ?_⟩; have HO284 := Aside0.mk (Kd.N_lower (Kd.N_mono (ok' := fun k_ => some k_ ≠ (.slice Ao21 y268.length co21 : Value).ownBlock ∧ some k_ ≠ (.slice Ao24 t273.length co24 : Value).ownBlock) (Kd.S_N (Kd.S_bound ho0)) (fun k_ hk_ => ⟨(Kd.fresh' (Kd.N_lt (by (with_reducible repeat (first | apply Kd.N_alloc | apply Kd.N_drewN | apply Kd.N_drew)); exact HO270.out)) k_ hk_.2.1), (Kd.fresh' (Kd.N_lt (by (with_reducible repeat (first | apply Kd.N_alloc | apply Kd.N_drewN | apply Kd.N_drew)); exact HO277.out)) k_ hk_.2.1)⟩)) (below_size b_now)); replace HO270 := Aside0.mk (Kd.N_elder' (by (with_reducible repeat (first | apply Kd.N_alloc | apply Kd.N_drewN | apply Kd.N_drew)); exact HO270.out) (Kd.N_base (Kd.S_N ho0)) hb); replace HO277 := Aside0.mk (Kd.N_elder' (by (with_reducible repeat (first | apply Kd.N_alloc | apply Kd.N_drewN | apply Kd.N_drew)); exact HO277.out) (Kd.N_base (Kd.S_N ho0)) hb); replace HB := sh_b (w := w) hb; (try clear hb); (try clear hb2); (try clear hk); (try clear hi); (try clear ho0)))
        go_ret
        exact ⟨ret_now, b_now⟩
       ·rw [if_neg c13] at H
        have c13b0 : (t282 == 5) = false := beq_eq_false_iff_ne.mpr c13
        have c13b1 : (t282 != 5) = true := bne_iff_ne.mpr c13
        obtain rfl := Option.some.inj H
        exact absurd HRT.out (by simp)
      ·rw [if_neg c12] at H
       have c12b0 : (t279 == 1) = false := beq_eq_false_iff_ne.mpr c12
       have c12b1 : (t279 != 1) = true := bne_iff_ne.mpr c12
       obtain rfl := Option.some.inj H
       exact absurd HRT.out (by simp)
     ·rw [if_neg c11] at H
      have c11b0 : (t278 == 6) = false := beq_eq_false_iff_ne.mpr c11
      have c11b1 : (t278 != 6) = true := bne_iff_ne.mpr c11
      obtain rfl := Option.some.inj H
      exact absurd HRT.out (by simp)
    ·rw [if_neg c10] at H
     have c10b0 : (t275 == 0) = false := beq_eq_false_iff_ne.mpr c10
     have c10b1 : (t275 != 0) = true := bne_iff_ne.mpr c10
     obtain rfl := Option.some.inj H
     exact absurd HRT.out (by simp)
   ·rw [if_neg c9] at H
    have c9b0 : (t274 == 0) = false := beq_eq_false_iff_ne.mpr c9
    have c9b1 : (t274 != 0) = true := bne_iff_ne.mpr c9
    obtain rfl := Option.some.inj H
    exact absurd HRT.out (by simp)
  ·rw [if_neg c8] at H
   have c8b0 : (t271.toList == ([117, 49, 54, 64, 49, 50, 32, 50, 48, 52, 56, 46, 46, 50, 48, 52, 56, 44, 32, 112, 97, 115, 116, 32, 117, 49, 54, 64, 50, 32, 56, 48, 46, 46, 56, 48, 32, 45, 62, 32, 55, 10, 97, 110, 121, 32, 45, 62, 32, 48, 10] : List UInt8)) = false := beq_eq_false_iff_ne.mpr c8
   have c8b1 : (t271.toList != ([117, 49, 54, 64, 49, 50, 32, 50, 48, 52, 56, 46, 46, 50, 48, 52, 56, 44, 32, 112, 97, 115, 116, 32, 117, 49, 54, 64, 50, 32, 56, 48, 46, 46, 56, 48, 32, 45, 62, 32, 55, 10, 97, 110, 121, 32, 45, 62, 32, 48, 10] : List UInt8)) = true := bne_iff_ne.mpr c8
   obtain rfl := Option.some.inj H
   exact absurd HRT.out (by simp)
 ·rw [if_neg c7] at H
  have c7b0 : (t272 == 0) = false := beq_eq_false_iff_ne.mpr c7
  have c7b1 : (t272 != 0) = true := bne_iff_ne.mpr c7
  obtain rfl := Option.some.inj H
  exact absurd HRT.out (by simp)

/-! ### stockadelaw18_Test: function 27 -/
def stockadelaw18_Test.f (a0_0 : Bool) (a0_1 : Int) (a0_2 : Int) (a0_3 : Int) (a0_4 : Int) (a0_5 : Int) (a0_6 : Int) : Option (Bool × Int × Int × Int × Int × Int × Int) := some (a0_0, a0_1, a0_2, a0_3, a0_4, a0_5, a0_6)
set_option maxHeartbeats 8000000 in
set_option maxRecDepth 100000 in
theorem stockadelaw18_Test.calls (a0_0 : Bool) (a0_1 : Int) (a0_2 : Int) (a0_3 : Int) (a0_4 : Int) (a0_5 : Int) (a0_6 : Int) (r1 : Bool) (r2 : Int) (r3 : Int) (r4 : Int) (r5 : Int) (r6 : Int) (r7 : Int) (w : World) (h : stockadelaw18_Test.f a0_0 a0_1 a0_2 a0_3 a0_4 a0_5 a0_6 = some (r1, r2, r3, r4, r5, r6, r7)) :
  Calls Tryd.prog 27 #[.agg #[.bool a0_0, .int .i64 a0_1, .int .i64 a0_2, .int .i64 a0_3, .int .u64 a0_4, .int .u64 a0_5, .int .u64 a0_6]] w fun e w' => e = .returned (.agg #[.bool r1, .int .i64 r2, .int .i64 r3, .int .i64 r4, .int .u64 r5, .int .u64 r6, .int .u64 r7]) ∧ Below w.heap.size w w' := by
 have hu55 := Tryd.underlying55
 have hu50 := Tryd.underlying50
 have HB := Aside0.mk (Below.refl w.heap.size w)
 have H : (some (a0_0, a0_1, a0_2, a0_3, a0_4, a0_5, a0_6)) = some (r1, r2, r3, r4, r5, r6, r7) := h
 clear h
 simp only [Option.some.injEq, Prod.mk.injEq] at H
 obtain ⟨rfl, rfl, rfl, rfl, rfl, rfl, rfl⟩ := H
 go_enter Tryd.func27, Tryd.ntmps27
 go_wp2_with (first | ((with_reducible refine gate_dst (N := 1) rfl ?_); refine sh_box 1 #[.bool a0_0, .int .i64 a0_1, .int .i64 a0_2, .int .i64 a0_3, .int .u64 a0_4, .int .u64 a0_5, .int .u64 a0_6] 55 ?_; intro gb285 hg w2 hbox hb; have GE285 := sh_z (w := w) hg; replace HB := sh_b (w := w) hb; have BK285 := Aside0.mk (hbox); clear hb hbox hg) | ((with_reducible refine gate_dst (N := 2) rfl ?_); refine sh_box 2 #[.bool false, .int .i64 0, .int .i64 0, .int .i64 0, .int .u64 0, .int .u64 0, .int .u64 0] 50 ?_; intro gb286 hg w3 hbox hb; have GE286 := sh_z (w := w) hg; have NB285_286 := sh_n BK285 hg; have NB286_285 := sh_s NB285_286; replace BK285 := sh_k BK285 hb; replace HB := sh_b (w := w) hb; have BK286 := Aside0.mk (hbox); clear hb hbox hg; have hnb4 := NB285_286.out; have hnc4 := NB286_285.out; have hcz5 := blk_all7 BK285.out; have hcz6 := blk_all7 BK286.out))
 refine bodyPost_ret (results_cell_row rfl _ _ gb286 50 #[.bool a0_0, .int .i64 a0_1, .int .i64 a0_2, .int .i64 a0_3, .int .u64 a0_4, .int .u64 a0_5, .int .u64 a0_6] (0, 0) _ rfl bk_now Tryd.underlying50 rfl (by kernel_rfl)) rfl ?_
 exact ⟨ret_now, b_now⟩

/-! ### stockadelaw18_Table: function 12 -/
mutual
def stockadelaw18_Table.l0 : Nat → List (S46) → List (S53) → Int → Option ((List (S53)))
 | 0, _, _, _ => none
 | k + 1, x0, x3, x4 => if x4 < (x0.length : Int) then (if 0 ≤ x4 then (stockadelaw18_Table.l1 k x0 x3 x4 0 ([] : List (S50)) ((rd_T46 x0 x4).f1)) else (none)) else (some x3)
def stockadelaw18_Table.l1 : Nat → List (S46) → List (S53) → Int → Int → List (S50) → Int → Option ((List (S53)))
 | 0, _, _, _, _, _, _ => none
 | k + 1, x0, x3, x4, x6, x289000, x289001 => if 0 ≤ x4 then (if x4 < (x0.length : Int) then (if x6 < (((rd_T46 x0 x4).f0).length : Int) then (if 0 ≤ x6 then ((stockadelaw18_Test.f ((rd_T55 ((rd_T46 x0 x4).f0) x6).f0) ((rd_T55 ((rd_T46 x0 x4).f0) x6).f1) ((rd_T55 ((rd_T46 x0 x4).f0) x6).f2) ((rd_T55 ((rd_T46 x0 x4).f0) x6).f3) ((rd_T55 ((rd_T46 x0 x4).f0) x6).f4) ((rd_T55 ((rd_T46 x0 x4).f0) x6).f5) ((rd_T55 ((rd_T46 x0 x4).f0) x6).f6)).bind fun bt292 => (if x289000.length < 2513169434916 then (stockadelaw18_Table.l1 k x0 x3 x4 (wrap64 (x6 + 1)) (x289000 ++ [(⟨bt292.1, bt292.2.1, bt292.2.2.1, bt292.2.2.2.1, bt292.2.2.2.2.1, bt292.2.2.2.2.2.1, bt292.2.2.2.2.2.2⟩ : S50)]) x289001) else (none))) else (none)) else (if x3.length < 4398046511104 then (stockadelaw18_Table.l0 k x0 (x3 ++ [(⟨x289000, x289001⟩ : S53)]) (wrap64 (x4 + 1))) else (none))) else (none)) else (none)
end
def stockadelaw18_Table.f (k : Nat) (l0 : List (S46)) : Option ((List (S53))) := stockadelaw18_Table.l0 k l0 ([] : List (S53)) 0
theorem stockadelaw18_Table.mono_l : ∀ k, (∀ y0 y1 y2, LeO (stockadelaw18_Table.l0 k y0 y1 y2) (stockadelaw18_Table.l0 (k + 1) y0 y1 y2)) ∧ (∀ y0 y1 y2 y3 y4 y5, LeO (stockadelaw18_Table.l1 k y0 y1 y2 y3 y4 y5) (stockadelaw18_Table.l1 (k + 1) y0 y1 y2 y3 y4 y5))
 | 0 => ⟨fun _ _ _ r h => by simp [stockadelaw18_Table.l0] at h, fun _ _ _ _ _ _ r h => by simp [stockadelaw18_Table.l1] at h⟩
 | k + 1 => by
  obtain ⟨ih0, ih1⟩ := stockadelaw18_Table.mono_l k
  refine ⟨?_, ?_⟩
  ·intro y0 y1 y2
   unfold stockadelaw18_Table.l0
   repeat' first
   | (with_reducible exact ih0 _ _ _)
   | (with_reducible exact ih1 _ _ _ _ _ _)
   | (with_reducible exact LeO.refl _)
   | (with_reducible exact LeO.none _)
   | (with_reducible refine LeO.ite ?_ ?_)
   | (with_reducible refine LeO.bind ?_ (fun _ => ?_))
   | exact ih0 _ _ _
   | exact ih1 _ _ _ _ _ _
   | exact LeO.none _
   | refine LeO.ite ?_ ?_
   | refine LeO.bind ?_ (fun _ => ?_)
  ·intro y0 y1 y2 y3 y4 y5
   unfold stockadelaw18_Table.l1
   repeat' first
   | (with_reducible exact ih0 _ _ _)
   | (with_reducible exact ih1 _ _ _ _ _ _)
   | (with_reducible exact LeO.refl _)
   | (with_reducible exact LeO.none _)
   | (with_reducible refine LeO.ite ?_ ?_)
   | (with_reducible refine LeO.bind ?_ (fun _ => ?_))
   | exact ih0 _ _ _
   | exact ih1 _ _ _ _ _ _
   | exact LeO.none _
   | refine LeO.ite ?_ ?_
   | refine LeO.bind ?_ (fun _ => ?_)
theorem stockadelaw18_Table.mono : ∀ a0 k, LeO (stockadelaw18_Table.f k a0) (stockadelaw18_Table.f (k + 1) a0) := by
 intro a0 k
 obtain ⟨ih0, ih1⟩ := stockadelaw18_Table.mono_l k
 unfold stockadelaw18_Table.f
 repeat' first
   | (with_reducible exact ih0 _ _ _)
   | (with_reducible exact ih1 _ _ _ _ _ _)
   | (with_reducible exact LeO.refl _)
   | (with_reducible exact LeO.none _)
   | (with_reducible refine LeO.ite ?_ ?_)
   | (with_reducible refine LeO.bind ?_ (fun _ => ?_))
   | exact ih0 _ _ _
   | exact ih1 _ _ _ _ _ _
   | exact LeO.none _
   | refine LeO.ite ?_ ?_
   | refine LeO.bind ?_ (fun _ => ?_)
def stockadelaw18_Table.T9 : Bool × List (List Nat × List Nat) := (true, [([], []), ([0], [0]), ([], []), ([], []), ([2, 3], [2, 3]), ([4], [4]), ([5], [5]), ([], []), ([6, 7], [6, 7]), ([8], [8]), ([9], [9]), ([10], [10]), ([1, 11, 10], [1, 11]), ([0, 1, 2, 3, 4, 5, 6, 7, 8, 9, 10, 11, 12], []), ([13, 12, 12, 0, 1, 2, 3, 4, 5, 6, 7, 8, 9, 10, 11, 12], [12, 13])])
def stockadelaw18_Table.B9 : List Nat := [0, 1, 0, 0, 12, 28, 60, 0, 252, 508, 1020, 2044, 4095, 8191, 16383]
theorem stockadelaw18_Table.tab9 : rtab .any (opsOf Tryd.f12 9) = stockadelaw18_Table.T9 := by kernel_rfl
theorem stockadelaw18_Table.bits9 : waitsOk stockadelaw18_Table.T9.2 stockadelaw18_Table.B9 = true := by kernel_rfl
set_option maxHeartbeats 8000000 in
set_option maxRecDepth 100000 in
theorem stockadelaw18_Table.calls (k : Nat) (A0 : Option Addr) (c0 : Nat) (l0 : List (S46)) (r : List (S53)) (w : World) (hr0 : Kd.C k46 w A0 l0.length l0) (hc0 : l0.length ≤ c0) (h : stockadelaw18_Table.f k l0 = some r) :
  Calls Tryd.prog 12 #[.slice A0 l0.length c0] w fun e w' => ∃ v0_ : Value, e = .returned (v0_) ∧ Kd.S k53 53 w' w.heap.size (fun _ => True) v0_ r ∧ Below w.heap.size w w' := by
 have hu53 := Tryd.underlying53
 have hu55 := Tryd.underlying55
 have HR0 := Aside0.mk hr0
 have HC0 := Aside0.mk hc0
 clear hr0 hc0
 have HB := Aside0.mk (Below.refl w.heap.size w)
 have H : (stockadelaw18_Table.l0 k l0 ([] : List (S53)) 0) = some r := h
 clear h
 have H' := Aside0.mk H
 clear H
 go_enter Tryd.func12, Tryd.ntmps12
 go_wp2
 go_loopg [3, 4] k (fun kq v3 v4 w' => ∃ (x3_1 : List (S53)) (x4_1 : Int), v4 = .int .i64 x4_1 ∧ Aside0 (stockadelaw18_Table.l0 kq l0 x3_1 x4_1 = some r) ∧ Aside0 (kq ≤ k) ∧ Aside0 (Kd.S k53 53 w' w.heap.size (fun _ => True) v3 x3_1) ∧ Aside0 (Below w.heap.size w w'))
 case atStart => exact ⟨(([] : List (S53))), (0), eq_now, H', ⟨Nat.le_refl _⟩, ⟨by first | exact Kd.S_nil _ _ _ _ _ | exact Kd.N_nil _ _ _ _ _ | exact Kd.V_nil _ _ _ _ _ | exact Kd.Q_nil _ _ _ _ _ | exact Kd.R_nil _ _ _ _ _⟩, ⟨b_now⟩⟩
 case round =>
  clear H'
  obtain ⟨x3_1, x4_1, rfl, HA, HK1, HO_3, HB⟩ := hrel
  cases gk with
  | zero => exact absurd HA.out (by simp [stockadelaw18_Table.l0])
  | succ k1 =>
   have H := HA.out
   clear HA
   simp only [stockadelaw18_Table.l0] at H
   by_cases c2 : x4_1 < (l0.length : Int)
   ·rw [if_pos c2] at H
    have c2b0 : decide (x4_1 < (l0.length : Int)) = true := decide_eq_true c2
    clear c2
    by_cases c3 : 0 ≤ x4_1
    ·rw [if_pos c3] at H
     have c3b0 : decide (0 ≤ x4_1) = true := decide_eq_true c3
     clear c3
     have H' := Aside0.mk H
     clear H
     have p287 : 0 ≤ (x4_1 : Int) := of_decide_eq_true (by first | (with_reducible assumption) | assumption)
     have q287 : x4_1 < (l0.length : Int) := of_decide_eq_true (by first | (with_reducible assumption) | assumption)
     obtain ⟨ad287, A287_0, c287_0, e287, hx287_0, hx287_1, hl287_0, hi287_0⟩ := at_T46 HR0.out x4_1 p287 q287
     cases e287
     replace hx287_0 := (HB.out.cell (World.block_lt_of_cell? w _ hx287_0)).trans hx287_0
     replace hx287_1 := (HB.out.cell (World.block_lt_of_cell? w _ hx287_1)).trans hx287_1
     have HR287_0 := Aside0.mk hi287_0
     have HC287_0 := Aside0.mk hl287_0
     clear hi287_0 hl287_0
     replace p287 := eq_true p287
     replace q287 := eq_true q287
     go_wp2_with (first | ((with_reducible refine gate_dst (N := 5) rfl ?_); refine sh_box 5 #[.slice none 0 0, .int .u32 0] 53 ?_; intro gb288 hg w4 hbox hb; have GE288 := sh_z (w := w) hg; replace HO_3 := Aside0.mk (Kd.S_below (Kd.S_elderB (by (with_reducible repeat (first | apply Kd.S_alloc | apply Kd.S_drewN | apply Kd.S_drew)); exact HO_3.out) gb288 (Nat.le_of_eq hg.symm)) hb); replace HB := sh_b (w := w) hb; have BK288 := Aside0.mk (hbox); clear hb hbox hg; have hcz5 := blk_all2 BK288.out))
     go_loopg [6] k1 (fun kq v6 w' => ∃ (x6_2 : Int) (x289000_2 : List (S50)) (u289000 : Value), v6 = .int .i64 x6_2 ∧ Aside0 (stockadelaw18_Table.l1 kq l0 x3_1 x4_1 x6_2 x289000_2 ((rd_T46 l0 x4_1).f1) = some r) ∧ Aside0 (kq ≤ k1) ∧ Aside0 (Kd.S k53 53 w' w.heap.size (fun k_ => some k_ ≠ (u289000 : Value).ownBlock ∧ k_ ≠ gb288) u3 x3_1) ∧ Aside0 (Kd.R k50 50 w' w.heap.size (fun _ => True) u289000 x289000_2) ∧ Aside0 (w'.heap[gb288]? = some (.cells #[u289000, .int .u32 ((rd_T46 l0 x4_1).f1)] 53 (0, 0))) ∧ Aside0 (Below w.heap.size w w'))
     case atStart => exact ⟨(0), (([] : List (S50))), (.slice none 0 0), eq_now, H', ⟨Nat.le_refl _⟩, ⟨by (with_reducible repeat (first | apply Kd.S_alloc | apply Kd.S_drewN | apply Kd.S_drew)); exact Kd.S_mono (Kd.S_far (p := ⟨gb288, 1, none⟩) (Kd.S_far (p := ⟨gb288, 0, none⟩) (Kd.S_mono HO_3.out (fun k_ hk => (⟨hk, hk.2⟩ : _ ∧ k_ ≠ gb288))) (fun _ hk => hk.2) (.slice none 0 0)) (fun _ hk => hk.2) (.int .u32 ((rd_T46 l0 x4_1).f1))) (fun _ hk => ⟨(by simp [Value.ownBlock]), hk.1.2⟩)⟩, ⟨by first | exact Kd.R_nil _ _ _ _ _ | exact Kd.N_nil _ _ _ _ _ | exact Kd.V_nil _ _ _ _ _ | exact Kd.Q_nil _ _ _ _ _ | exact Kd.S_nil _ _ _ _ _⟩, ⟨bk_now⟩, ⟨b_now⟩⟩
     case round =>
      clear H'
      clear c2b0 c3b0 hcz5 hx287_0 hx287_1 p287 q287
      obtain ⟨x6_2, x289000_2, u289000, rfl, HA, HK2, HO_3, HO_289000, BK288, HB⟩ := hrel
      cases gk with
      | zero => exact absurd HA.out (by simp [stockadelaw18_Table.l1])
      | succ k2 =>
       have H := HA.out
       clear HA
       simp only [stockadelaw18_Table.l1] at H
       by_cases c6 : 0 ≤ x4_1
       ·rw [if_pos c6] at H
        have c6b0 : decide (0 ≤ x4_1) = true := decide_eq_true c6
        clear c6
        by_cases c7 : x4_1 < (l0.length : Int)
        ·rw [if_pos c7] at H
         have c7b0 : decide (x4_1 < (l0.length : Int)) = true := decide_eq_true c7
         clear c7
         by_cases c8 : x6_2 < (((rd_T46 l0 x4_1).f0).length : Int)
         ·rw [if_pos c8] at H
          have c8b0 : decide (x6_2 < (((rd_T46 l0 x4_1).f0).length : Int)) = true := decide_eq_true c8
          clear c8
          by_cases c9 : 0 ≤ x6_2
          ·rw [if_pos c9] at H
           have c9b0 : decide (0 ≤ x6_2) = true := decide_eq_true c9
           clear c9
           replace H := Option.bind_eq_some_iff.mp H; obtain ⟨⟨t292, t293, t294, t295, t296, t297, t298⟩, A100, H⟩ := H; try dsimp only at H
           have A10 := Aside0.mk A100
           clear A100
           by_cases c11 : x289000_2.length < 2513169434916
           ·rw [if_pos c11] at H
            have LMc11 := Aside0.mk c11
            clear c11
            obtain ⟨y299, hy299⟩ : ∃ y_ : List (S50), y_ = (x289000_2 ++ [(⟨t292, t293, t294, t295, t296, t297, t298⟩ : S50)]) := ⟨_, rfl⟩
            replace H : (stockadelaw18_Table.l1 k2 l0 x3_1 x4_1 (wrap64 (x6_2 + 1)) y299 ((rd_T46 l0 x4_1).f1)) = some r := by first | (rw [hy299]; with_reducible exact H) | (have H2_ := (Option.bind_some _ _).symm.trans H; rw [hy299]; with_reducible exact H2_) | (have H2_ := (Option.bind_some _ _).symm.trans H; with_reducible exact H2_) | with_reducible exact H | (rw [hy299]; exact H) | exact H
            have Ny299 := Aside0.mk hy299
            clear hy299
            have H' := Aside0.mk H
            clear H
            have p289 : 0 ≤ (x4_1 : Int) := of_decide_eq_true (by first | (with_reducible assumption) | assumption)
            have q289 : x4_1 < (l0.length : Int) := of_decide_eq_true (by first | (with_reducible assumption) | assumption)
            obtain ⟨ad289, A289_0, c289_0, e289, hx289_0, hx289_1, hl289_0, hi289_0⟩ := at_T46 HR0.out x4_1 p289 q289
            obtain rfl : ad287 = ad289 := (by injection e289)
            replace hx289_0 := (HB.out.cell (World.block_lt_of_cell? w _ hx289_0)).trans hx289_0
            replace hx289_1 := (HB.out.cell (World.block_lt_of_cell? w _ hx289_1)).trans hx289_1
            have HR289_0 := Aside0.mk hi289_0
            have HC289_0 := Aside0.mk hl289_0
            clear hi289_0 hl289_0
            replace p289 := eq_true p289
            replace q289 := eq_true q289
            try go_wp2
            have n0_ := Aside0.mk (Kd.S_drew HO_3.out)
            have n1_ := Aside0.mk (Kd.R_drew HO_289000.out)
            have n2_ := Aside0.mk (blk_drew BK288.out)
            have n3_ := Aside0.mk (below_drew1 HB.out)
            clear HO_3
            clear HO_289000
            clear BK288
            clear HB
            have HO_3 := n0_
            have HO_289000 := n1_
            have BK288 := n2_
            have HB := n3_
            clear n0_ n1_ n2_ n3_
            have p290 : 0 ≤ (x4_1 : Int) := of_decide_eq_true (by first | (with_reducible assumption) | assumption)
            have q290 : x4_1 < (l0.length : Int) := of_decide_eq_true (by first | (with_reducible assumption) | assumption)
            obtain ⟨ad290, A290_0, c290_0, e290, hx290_0, hx290_1, hl290_0, hi290_0⟩ := at_T46 HR0.out x4_1 p290 q290
            have hw290_1 := hx290_1
            have hw290_0 := hx290_0
            obtain rfl : ad287 = ad290 := (by injection e290)
            replace hx290_0 := (HB.out.cell (World.block_lt_of_cell? w _ hx290_0)).trans hx290_0
            replace hx290_1 := (HB.out.cell (World.block_lt_of_cell? w _ hx290_1)).trans hx290_1
            have HR290_0 := Aside0.mk hi290_0
            have HC290_0 := Aside0.mk hl290_0
            clear hi290_0 hl290_0
            replace p290 := eq_true p290
            replace q290 := eq_true q290
            have p291 : 0 ≤ (x6_2 : Int) := of_decide_eq_true (by first | (with_reducible assumption) | assumption)
            have q291 : x6_2 < (((rd_T46 l0 x4_1).f0).length : Int) := of_decide_eq_true (by first | (with_reducible assumption) | assumption)
            obtain ⟨ad291, e291, hx291_0, hx291_1, hx291_2, hx291_3, hx291_4, hx291_5, hx291_6⟩ := at_T55 HR290_0.out x6_2 p291 q291
            have hw291_6 := hx291_6
            have hw291_5 := hx291_5
            have hw291_4 := hx291_4
            have hw291_3 := hx291_3
            have hw291_2 := hx291_2
            have hw291_1 := hx291_1
            have hw291_0 := hx291_0
            cases e291
            replace hx291_0 := (HB.out.cell (World.block_lt_of_cell? w _ hx291_0)).trans hx291_0
            replace hx291_1 := (HB.out.cell (World.block_lt_of_cell? w _ hx291_1)).trans hx291_1
            replace hx291_2 := (HB.out.cell (World.block_lt_of_cell? w _ hx291_2)).trans hx291_2
            replace hx291_3 := (HB.out.cell (World.block_lt_of_cell? w _ hx291_3)).trans hx291_3
            replace hx291_4 := (HB.out.cell (World.block_lt_of_cell? w _ hx291_4)).trans hx291_4
            replace hx291_5 := (HB.out.cell (World.block_lt_of_cell? w _ hx291_5)).trans hx291_5
            replace hx291_6 := (HB.out.cell (World.block_lt_of_cell? w _ hx291_6)).trans hx291_6
            replace p291 := eq_true p291
            replace q291 := eq_true q291
            refine start_ (n := 15) (S := fun w' => w'.cell? ⟨gb288, 0, none⟩ = some (u289000) ∧ w'.cell? ⟨gb288, 1, none⟩ = some (.int .u32 ((rd_T46 l0 x4_1).f1)) ∧ w'.cell? (ad287.add ((x4_1).toNat * 2)) = some (.slice (some ad291) ((rd_T46 l0 x4_1).f0).length c290_0) ∧ w'.cell? ⟨(ad287.add ((x4_1).toNat * 2)).block, (ad287.add ((x4_1).toNat * 2)).off + 1, none⟩ = some (.int .u32 ((rd_T46 l0 x4_1).f1)) ∧ w'.cell? (ad291.add ((x6_2).toNat * 7)) = some (.bool ((rd_T55 ((rd_T46 l0 x4_1).f0) x6_2).f0)) ∧ w'.cell? ⟨(ad291.add ((x6_2).toNat * 7)).block, (ad291.add ((x6_2).toNat * 7)).off + 1, none⟩ = some (.int .i64 ((rd_T55 ((rd_T46 l0 x4_1).f0) x6_2).f1)) ∧ w'.cell? ⟨(ad291.add ((x6_2).toNat * 7)).block, (ad291.add ((x6_2).toNat * 7)).off + 2, none⟩ = some (.int .i64 ((rd_T55 ((rd_T46 l0 x4_1).f0) x6_2).f2)) ∧ w'.cell? ⟨(ad291.add ((x6_2).toNat * 7)).block, (ad291.add ((x6_2).toNat * 7)).off + 3, none⟩ = some (.int .i64 ((rd_T55 ((rd_T46 l0 x4_1).f0) x6_2).f3)) ∧ w'.cell? ⟨(ad291.add ((x6_2).toNat * 7)).block, (ad291.add ((x6_2).toNat * 7)).off + 4, none⟩ = some (.int .u64 ((rd_T55 ((rd_T46 l0 x4_1).f0) x6_2).f4)) ∧ w'.cell? ⟨(ad291.add ((x6_2).toNat * 7)).block, (ad291.add ((x6_2).toNat * 7)).off + 5, none⟩ = some (.int .u64 ((rd_T55 ((rd_T46 l0 x4_1).f0) x6_2).f5)) ∧ w'.cell? ⟨(ad291.add ((x6_2).toNat * 7)).block, (ad291.add ((x6_2).toNat * 7)).off + 6, none⟩ = some (.int .u64 ((rd_T55 ((rd_T46 l0 x4_1).f0) x6_2).f6))) (ds := [14]) (fl 0 15) (by kernel_rfl) rfl rfl ⟨(blk_cell BK288.out 0).trans rfl, (blk_cell BK288.out 1).trans rfl, ((HB.out.cell (World.block_lt_of_cell? w _ hw290_0)).trans hw290_0), ((HB.out.cell (World.block_lt_of_cell? w _ hw290_1)).trans hw290_1), ((HB.out.cell (World.block_lt_of_cell? w _ hw291_0)).trans hw291_0), ((HB.out.cell (World.block_lt_of_cell? w _ hw291_1)).trans hw291_1), ((HB.out.cell (World.block_lt_of_cell? w _ hw291_2)).trans hw291_2), ((HB.out.cell (World.block_lt_of_cell? w _ hw291_3)).trans hw291_3), ((HB.out.cell (World.block_lt_of_cell? w _ hw291_4)).trans hw291_4), ((HB.out.cell (World.block_lt_of_cell? w _ hw291_5)).trans hw291_5), ((HB.out.cell (World.block_lt_of_cell? w _ hw291_6)).trans hw291_6)⟩ (fun hHeld => ?_); refine with_tabW stockadelaw18_Table.tab9 stockadelaw18_Table.bits9 (fun HT_ HW_ => ?_)
            generalize wr.drew = w12 at HO_3 HO_289000 BK288 HB HR290_0 hx290_0 hx290_1 hx291_0 hx291_1 hx291_2 hx291_3 hx291_4 hx291_5 hx291_6 hHeld ⊢
            refine pure_ (i := 0) (N := some 29) (v := ?_) (a' := ?_) (fl 1 14) rfl rfl (any_of HT_.out (by kernel_rfl)) (fun _ _ _ h => h) (Or.inl ⟨by rfl, ?_⟩) ?_ ?_
            rotate_left; exact ga_; rotate_left; exact gb_
            refine pure_ (i := 2) (N := some 31) (v := ?_) (a' := ?_) (fm 15 5) rfl rfl (any_of HT_.out (by kernel_rfl)) (fun _ _ _ h => h) (Or.inl ⟨by rfl, ?_⟩) ?_ ?_
            rotate_left; exact ga_; rotate_left; exact gb_
            refine pure_ (i := 3) (N := some 32) (v := ?_) (a' := ?_) (fm 15 13) rfl rfl (any_of HT_.out (by kernel_rfl)) (fun _ _ _ h => h) (Or.inl ⟨by rfl, ?_⟩) ?_ ?_
            rotate_left; exact ga_; rotate_left; exact gb_
            refine pure_ (i := 4) (N := some 33) (v := ?_) (a' := ?_) (fm 15 29) rfl rfl (any_of HT_.out (by kernel_rfl)) (fun _ _ _ h => h) (Or.inl ⟨by rfl, ?_⟩) ?_ ?_
            rotate_left; exact ga_; rotate_left; exact gb_
            refine pure_ (i := 5) (N := some 34) (v := ?_) (a' := ?_) (fm 15 61) rfl rfl (any_of HT_.out (by kernel_rfl)) (fun _ _ _ h => h) (Or.inl ⟨by rfl, ?_⟩) ?_ ?_
            rotate_left; exact ga_; rotate_left; exact gb_
            refine pure_ (i := 7) (N := some 36) (v := ?_) (a' := ?_) (fm 15 189) rfl rfl (any_of HT_.out (by kernel_rfl)) (fun _ _ _ h => h) (Or.inl ⟨by rfl, ?_⟩) ?_ ?_
            rotate_left; exact ga_; rotate_left; exact gb_
            refine take_ (i := 1) (N := some 30) (v := ?_) (a' := ?_) (fm 15 191) rfl rfl (take_ofW HT_.out HW_.out (by kernel_rfl)) (fun _ _ _ h => h) (Or.inl ⟨by rfl, ?_⟩) hHeld ?_ ?_
            rotate_left; exact ga11_; rotate_left; exact gb_
            refine take_ (i := 6) (N := some 35) (v := ?_) (a' := ?_) (fl 8 7) rfl rfl (take_ofW HT_.out HW_.out (by kernel_rfl)) (fun _ _ _ h => h) (Or.inl ⟨by rfl, ?_⟩) hHeld ?_ ?_
            rotate_left; exact ga11_; rotate_left; exact gb_
            refine pure_ (i := 8) (N := some 37) (v := ?_) (a' := ?_) (fl 9 6) rfl rfl (any_of HT_.out (by kernel_rfl)) (fun _ _ _ h => h) (Or.inl ⟨by rfl, ?_⟩) ?_ ?_
            rotate_left; exact ga_; rotate_left; exact gb_
            refine take_ (i := 9) (N := some 38) (v := ?_) (a' := ?_) (fl 10 5) rfl rfl (take_ofW HT_.out HW_.out (by kernel_rfl)) (fun _ _ _ h => h) (Or.inl ⟨by rfl, ?_⟩) hHeld ?_ ?_
            rotate_left; exact ga11_; rotate_left; exact gb_
            refine one_ (i := 10) (N := some 39) (fl 11 4) rfl rfl (one_of HT_.out (by kernel_rfl)) (by decide) (fun K hK => ?_)
            refine goes_ Tryd.func27 (by kernel_rfl) rfl #[.agg #[.bool ((rd_T55 ((rd_T46 l0 x4_1).f0) x6_2).f0), .int .i64 ((rd_T55 ((rd_T46 l0 x4_1).f0) x6_2).f1), .int .i64 ((rd_T55 ((rd_T46 l0 x4_1).f0) x6_2).f2), .int .i64 ((rd_T55 ((rd_T46 l0 x4_1).f0) x6_2).f3), .int .u64 ((rd_T55 ((rd_T46 l0 x4_1).f0) x6_2).f4), .int .u64 ((rd_T55 ((rd_T46 l0 x4_1).f0) x6_2).f5), .int .u64 ((rd_T55 ((rd_T46 l0 x4_1).f0) x6_2).f6)]] (by rfl) rfl rfl (by (try simp only [List.map_toArray, List.map_cons, List.map_nil]); first | done | rfl | (simp only [List.length_drop, List.length_take]; rfl)) ?_
            with_reducible refine (stockadelaw18_Test.calls ((rd_T55 ((rd_T46 l0 x4_1).f0) x6_2).f0) ((rd_T55 ((rd_T46 l0 x4_1).f0) x6_2).f1) ((rd_T55 ((rd_T46 l0 x4_1).f0) x6_2).f2) ((rd_T55 ((rd_T46 l0 x4_1).f0) x6_2).f3) ((rd_T55 ((rd_T46 l0 x4_1).f0) x6_2).f4) ((rd_T55 ((rd_T46 l0 x4_1).f0) x6_2).f5) ((rd_T55 ((rd_T46 l0 x4_1).f0) x6_2).f6) t292 t293 t294 t295 t296 t297 t298 _ A10.out).mono ?_
            rintro e w13 ⟨rfl, hb⟩
            refine ⟨_, rfl, ?_⟩
            have n0_ := Aside0.mk (Kd.S_below (by (with_reducible repeat (first | apply Kd.S_alloc | apply Kd.S_drewN | apply Kd.S_drew)); exact HO_3.out) hb)
            have n1_ := Aside0.mk (Kd.R_below (by (with_reducible repeat (first | apply Kd.R_alloc | apply Kd.R_drewN | apply Kd.R_drew)); exact HO_289000.out) hb)
            have n2_ := Aside0.mk (blk_below (g := gb288) (o := .cells #[u289000, .int .u32 ((rd_T46 l0 x4_1).f1)] 53 (0, 0)) bk_now hb)
            have n3_ := Aside0.mk (below_step b_now hb)
            clear HO_3
            clear HO_289000
            clear BK288
            clear HB
            have HO_3 := n0_
            have HO_289000 := n1_
            have BK288 := n2_
            have HB := n3_
            clear n0_ n1_ n2_ n3_
            (try clear hb)
            (try clear hb2)
            (try clear hk)
            (try clear hi)
            refine hK.out _ _ ⟨(blk_cell BK288.out 0).trans rfl, (blk_cell BK288.out 1).trans rfl, ((HB.out.cell (World.block_lt_of_cell? w _ hw290_0)).trans hw290_0), ((HB.out.cell (World.block_lt_of_cell? w _ hw290_1)).trans hw290_1), ((HB.out.cell (World.block_lt_of_cell? w _ hw291_0)).trans hw291_0), ((HB.out.cell (World.block_lt_of_cell? w _ hw291_1)).trans hw291_1), ((HB.out.cell (World.block_lt_of_cell? w _ hw291_2)).trans hw291_2), ((HB.out.cell (World.block_lt_of_cell? w _ hw291_3)).trans hw291_3), ((HB.out.cell (World.block_lt_of_cell? w _ hw291_4)).trans hw291_4), ((HB.out.cell (World.block_lt_of_cell? w _ hw291_5)).trans hw291_5), ((HB.out.cell (World.block_lt_of_cell? w _ hw291_6)).trans hw291_6)⟩ (fun hHeld => ?_)
            clear hK K
            refine norm_ (a' := ?_) ?_ ?_
            rotate_left
            ·show Act.put _ (some 39) _ = _
             simp only [Act.put, List.setIfInBounds_toArray, List.set_cons_zero, List.set_cons_succ, i64_w, i32_w]
             rfl
            refine one_ (i := 11) (N := some 40) (fl 12 3) rfl rfl (one_of HT_.out (by kernel_rfl)) (by decide) (fun K hK => ?_)
            refine value_ (w1 := ?_) (v := ?_) (by rfl) rfl ?_ ?_
            rotate_left 2
            ·go_simp
             constructor
             ·rfl
             ·rfl
            refine hK.out _ _ ⟨(blk_cell (blk_alloc BK288.out _) 0).trans rfl, (blk_cell (blk_alloc BK288.out _) 1).trans rfl, (World.cell?_alloc_lt _ _ _ (World.block_lt_of_cell? _ _ (((HB.out.cell (World.block_lt_of_cell? w _ hw290_0)).trans hw290_0)))).trans (((HB.out.cell (World.block_lt_of_cell? w _ hw290_0)).trans hw290_0)), (World.cell?_alloc_lt _ _ _ (World.block_lt_of_cell? _ _ (((HB.out.cell (World.block_lt_of_cell? w _ hw290_1)).trans hw290_1)))).trans (((HB.out.cell (World.block_lt_of_cell? w _ hw290_1)).trans hw290_1)), (World.cell?_alloc_lt _ _ _ (World.block_lt_of_cell? _ _ (((HB.out.cell (World.block_lt_of_cell? w _ hw291_0)).trans hw291_0)))).trans (((HB.out.cell (World.block_lt_of_cell? w _ hw291_0)).trans hw291_0)), (World.cell?_alloc_lt _ _ _ (World.block_lt_of_cell? _ _ (((HB.out.cell (World.block_lt_of_cell? w _ hw291_1)).trans hw291_1)))).trans (((HB.out.cell (World.block_lt_of_cell? w _ hw291_1)).trans hw291_1)), (World.cell?_alloc_lt _ _ _ (World.block_lt_of_cell? _ _ (((HB.out.cell (World.block_lt_of_cell? w _ hw291_2)).trans hw291_2)))).trans (((HB.out.cell (World.block_lt_of_cell? w _ hw291_2)).trans hw291_2)), (World.cell?_alloc_lt _ _ _ (World.block_lt_of_cell? _ _ (((HB.out.cell (World.block_lt_of_cell? w _ hw291_3)).trans hw291_3)))).trans (((HB.out.cell (World.block_lt_of_cell? w _ hw291_3)).trans hw291_3)), (World.cell?_alloc_lt _ _ _ (World.block_lt_of_cell? _ _ (((HB.out.cell (World.block_lt_of_cell? w _ hw291_4)).trans hw291_4)))).trans (((HB.out.cell (World.block_lt_of_cell? w _ hw291_4)).trans hw291_4)), (World.cell?_alloc_lt _ _ _ (World.block_lt_of_cell? _ _ (((HB.out.cell (World.block_lt_of_cell? w _ hw291_5)).trans hw291_5)))).trans (((HB.out.cell (World.block_lt_of_cell? w _ hw291_5)).trans hw291_5)), (World.cell?_alloc_lt _ _ _ (World.block_lt_of_cell? _ _ (((HB.out.cell (World.block_lt_of_cell? w _ hw291_6)).trans hw291_6)))).trans (((HB.out.cell (World.block_lt_of_cell? w _ hw291_6)).trans hw291_6))⟩ (fun hHeld => ?_)
            clear hK K
            refine norm_ (a' := ?_) ?_ ?_
            rotate_left
            ·show Act.put _ (some 40) _ = _
             simp only [Act.put, List.setIfInBounds_toArray, List.set_cons_zero, List.set_cons_succ, i64_w, i32_w]
             rfl
            refine one_ (i := 12) (N := some 41) (fl 13 2) rfl rfl (one_of HT_.out (by kernel_rfl)) (by decide) (fun K hK => ?_)
            refine Kd.R_append_step k50 (w0 := w) w.heap.size (by rfl) (.tmp 30) (.tmp 40) 51 50 (.agg #[(.bool false), (.int .i64 0), (.int .i64 0), (.int .i64 0), (.int .u64 0), (.int .u64 0), (.int .u64 0)]) 56 rfl Tryd.underlying51 info50 rfl (by decide) (by omega) u289000 x289000_2 (⟨t292, t293, t294, t295, t296, t297, t298⟩ : S50) [.bool t292, .int .i64 t293, .int .i64 t294, .int .i64 t295, .int .u64 t296, .int .u64 t297, .int .u64 t298] (fun _ => True) (fun _ => False) rfl rfl ?aP (fun _ hk => hk.elim) ?aF ?aO ?aB ?aS ?aL ?_
            (case aP => exact k50_mkM _ _ _ (⟨t292, t293, t294, t295, t296, t297, t298⟩ : S50))
            (case aB => exact b_now)
            (case aF => exact (fun _ _ => trivial))
            (case aO => exact (by (with_reducible repeat (first | apply Kd.R_alloc | apply Kd.R_drewN | apply Kd.R_drew)); exact HO_289000.out))
            (case aS => exact (below_size b_now))
            (case aL => have := LMc11.out; omega)
            intro v300 w14 ho hb hg hat
            rw [← Ny299.out] at ho
            have n0_ := Aside0.mk (Kd.S_after (ok := (fun k_ => k_ ≠ gb288)) (by (with_reducible repeat (first | apply Kd.S_alloc | apply Kd.S_drewN | apply Kd.S_drew)); exact Kd.S_mono HO_3.out (fun _ hk => ⟨hk.2, hk.1⟩)) hg hat)
            have n1_ := Aside0.mk (blk_grown (g := gb288) (o := .cells #[u289000, .int .u32 ((rd_T46 l0 x4_1).f1)] 53 (0, 0)) bk_now hg (Kd.R_ne HO_289000.out BK288.out (by decide)))
            have n2_ := Aside0.mk (hb)
            have n3_ := Aside0.mk (ho)
            clear HO_3
            clear BK288
            clear HB
            clear HO_289000
            have HO_3 := n0_
            have BK288 := n1_
            have HB := n2_
            have HO301 := n3_
            clear n0_ n1_ n2_ n3_
            clear ho hb hg hat
            obtain ⟨Ao15, co15, eo15⟩ := Kd.R_slice HO301.out
            (first | subst eo15 | (injection eo15 with f1_ f2_ f3_; have f4_ := f1_.symm; have f5_ := f3_.symm; clear f1_ f2_ f3_; subst f4_; subst f5_))
            refine hK.out _ _ ⟨(blk_cell BK288.out 0).trans rfl, (blk_cell BK288.out 1).trans rfl, ((HB.out.cell (World.block_lt_of_cell? w _ hw290_0)).trans hw290_0), ((HB.out.cell (World.block_lt_of_cell? w _ hw290_1)).trans hw290_1), ((HB.out.cell (World.block_lt_of_cell? w _ hw291_0)).trans hw291_0), ((HB.out.cell (World.block_lt_of_cell? w _ hw291_1)).trans hw291_1), ((HB.out.cell (World.block_lt_of_cell? w _ hw291_2)).trans hw291_2), ((HB.out.cell (World.block_lt_of_cell? w _ hw291_3)).trans hw291_3), ((HB.out.cell (World.block_lt_of_cell? w _ hw291_4)).trans hw291_4), ((HB.out.cell (World.block_lt_of_cell? w _ hw291_5)).trans hw291_5), ((HB.out.cell (World.block_lt_of_cell? w _ hw291_6)).trans hw291_6)⟩ (fun hHeld => ?_)
            clear hK K
            refine norm_ (a' := ?_) ?_ ?_
            rotate_left
            ·show Act.put _ (some 41) _ = _
             simp only [Act.put, List.setIfInBounds_toArray, List.set_cons_zero, List.set_cons_succ, i64_w, i32_w]
             rfl
            refine pure_ (i := 13) (N := some 42) (v := ?_) (a' := ?_) (fl 14 1) rfl rfl (any_of HT_.out (by kernel_rfl)) (fun _ _ _ h => h) (Or.inl ⟨by rfl, ?_⟩) ?_ ?_
            rotate_left; exact ga_; rotate_left; exact gb_
            refine last_ (i := 14) (N := none) (fl 15 0) rfl rfl (one_of HT_.out (by kernel_rfl)) (by decide) (fun K hK => ?_)
            have hs16 : w14.cell? ⟨gb288, 0, none⟩ = some (u289000) := (blk_cell BK288.out 0).trans rfl
            have hfs16 := blk_frozen BK288.out 0
            refine skip_ (w1 := ?_) (by rfl) rfl ?_ ?_
            rotate_left
            ·go_simp
             rfl
            refine hK.out _ _ ?_
            clear hK K
            refine done_ (done_of HT_.out (by kernel_rfl)) ?_
            try go_wp2
            go_roundg k2
            case measure => have := HK1.out; have := HK2.out; omega
            case rel => exact ⟨(wrap64 (x6_2 + 1)), (y299), (.slice Ao15 y299.length co15), eq_now, H', ⟨by have := HK1.out; have := HK2.out; omega⟩, ⟨by (with_reducible repeat (first | apply Kd.S_alloc | apply Kd.S_drewN | apply Kd.S_drew)); exact Kd.S_mono (Kd.S_far (p := ⟨gb288, 0, none⟩) (Kd.S_mono HO_3.out (fun k_ hk => (⟨hk, hk.1⟩ : _ ∧ k_ ≠ gb288))) (fun _ hk => hk.2) (.slice Ao15 y299.length co15)) (fun _ hk => ⟨hk.1.2, hk.1.1⟩)⟩, ⟨by (with_reducible repeat (first | apply Kd.R_alloc | apply Kd.R_drewN | apply Kd.R_drew)); exact Kd.R_mono (Kd.R_far (p := ⟨gb288, 0, none⟩) (Kd.R_types HO301.out BK288.out (by decide)) (fun _ hk => hk.2) (.slice Ao15 y299.length co15)) (fun _ hk => trivial)⟩, ⟨bk_now⟩, ⟨b_now⟩⟩
           ·rw [if_neg c11] at H
            exact absurd H (by simp)
          ·rw [if_neg c9] at H
           exact absurd H (by simp)
         ·rw [if_neg c8] at H
          have c8b0 : decide (x6_2 < (((rd_T46 l0 x4_1).f0).length : Int)) = false := decide_eq_false c8
          clear c8
          by_cases c17 : x3_1.length < 4398046511104
          ·rw [if_pos c17] at H
           have LMc17 := Aside0.mk c17
           clear c17
           obtain ⟨y302, hy302⟩ : ∃ y_ : List (S53), y_ = (x3_1 ++ [(⟨x289000_2, ((rd_T46 l0 x4_1).f1)⟩ : S53)]) := ⟨_, rfl⟩
           replace H : (stockadelaw18_Table.l0 k2 l0 y302 (wrap64 (x4_1 + 1))) = some r := by first | (rw [hy302]; with_reducible exact H) | (have H2_ := (Option.bind_some _ _).symm.trans H; rw [hy302]; with_reducible exact H2_) | (have H2_ := (Option.bind_some _ _).symm.trans H; with_reducible exact H2_) | with_reducible exact H | (rw [hy302]; exact H) | exact H
           have Ny302 := Aside0.mk hy302
           clear hy302
           have H' := Aside0.mk H
           clear H
           have p289 : 0 ≤ (x4_1 : Int) := of_decide_eq_true (by first | (with_reducible assumption) | assumption)
           have q289 : x4_1 < (l0.length : Int) := of_decide_eq_true (by first | (with_reducible assumption) | assumption)
           obtain ⟨ad289, A289_0, c289_0, e289, hx289_0, hx289_1, hl289_0, hi289_0⟩ := at_T46 HR0.out x4_1 p289 q289
           obtain rfl : ad287 = ad289 := (by injection e289)
           replace hx289_0 := (HB.out.cell (World.block_lt_of_cell? w _ hx289_0)).trans hx289_0
           replace hx289_1 := (HB.out.cell (World.block_lt_of_cell? w _ hx289_1)).trans hx289_1
           have HR289_0 := Aside0.mk hi289_0
           have HC289_0 := Aside0.mk hl289_0
           clear hi289_0 hl289_0
           replace p289 := eq_true p289
           replace q289 := eq_true q289
           have hcz18 := blk_all2 BK288.out
           obtain ⟨Ao20, co20, eo20⟩ := Kd.R_slice HO_289000.out
           subst eo20
           go_wp2_with (first | ((with_reducible refine gate_builtin (b := .append) (xs := #[.tmp 43, .tmp 45]) rfl ?_); at_builtin; refine Kd.S_append k53 (w0 := w) w.heap.size rfl (.tmp 43) (.tmp 45) 25 53 (.agg #[(.slice none 0 0), (.int .u32 0)]) 32 rfl Tryd.underlying25 info53 rfl (by decide) (by omega) u3 x3_1 (⟨x289000_2, ((rd_T46 l0 x4_1).f1)⟩ : S53) [.slice Ao20 x289000_2.length co20, .int .u32 ((rd_T46 l0 x4_1).f1)] (fun k_ => k_ ≠ gb288) (fun k_ => some k_ = (.slice Ao20 x289000_2.length co20 : Value).ownBlock) rfl rfl ?aP (fun k_ hk_ => ((Kd.R_mono (ok' := fun k_ => ((fun k_ => k_ ≠ gb288)) k_ ∧ some k_ ≠ (u3 : Value).ownBlock) (Kd.R_types (Kd.R_apart' (HO_289000.out) (Kd.S_typed HO_3.out) (by decide)) BK288.out (by decide)) (fun k_ hk => ⟨hk.2, hk.1.2⟩))).1 k_ hk_.symm) ?aF ?aO ?aB ?aS ?aL ?_; (case aP => exact k53_mkM _ _ _ (⟨x289000_2, ((rd_T46 l0 x4_1).f1)⟩ : S53) (Kd.R_mono (Kd.R_tight rfl (Kd.R_mono (ok' := fun k_ => ((fun k_ => k_ ≠ gb288)) k_ ∧ some k_ ≠ (u3 : Value).ownBlock) (Kd.R_types (Kd.R_apart' (HO_289000.out) (Kd.S_typed HO_3.out) (by decide)) BK288.out (by decide)) (fun k_ hk => ⟨hk.2, hk.1.2⟩))) (fun _ h_ => h_))); (case aB => exact b_now); (case aF => exact (fun k_ hk => Kd.freshB (g := gb288) (o := .cells #[.slice Ao20 x289000_2.length co20, .int .u32 ((rd_T46 l0 x4_1).f1)] 53 (0, 0)) bk_now k_ hk)); (case aO => exact (by (with_reducible repeat (first | apply Kd.S_alloc | apply Kd.S_drewN | apply Kd.S_drew)); exact Kd.S_mono HO_3.out (fun k_ hk => ⟨hk.2, fun e_ => hk.1 e_⟩))); (case aS => exact (below_size b_now)); (case aL => have := LMc17.out; omega); intro v303 w19 ho hb hg hat; rw [← Ny302.out] at ho; have n0_ := Aside0.mk (blk_grown (g := gb288) (o := .cells #[.slice Ao20 x289000_2.length co20, .int .u32 ((rd_T46 l0 x4_1).f1)] 53 (0, 0)) bk_now hg (Kd.S_away HO_3.out (fun _ hk => hk.2))); have n1_ := Aside0.mk (hb); have n2_ := Aside0.mk (ho); clear BK288; clear HB; clear HO_3; clear HO_289000; have BK288 := n0_; have HB := n1_; have HO304 := n2_; clear n0_ n1_ n2_; clear ho hb hg hat))
           go_roundg k2
           case measure => have := HK1.out; have := HK2.out; omega
           case rel => exact ⟨(y302), (wrap64 (x4_1 + 1)), eq_now, H', ⟨by have := HK1.out; have := HK2.out; omega⟩, ⟨by (with_reducible repeat (first | apply Kd.S_alloc | apply Kd.S_drewN | apply Kd.S_drew)); exact Kd.S_mono HO304.out (fun _ hk => trivial)⟩, ⟨b_now⟩⟩
          ·rw [if_neg c17] at H
           exact absurd H (by simp)
        ·rw [if_neg c7] at H
         exact absurd H (by simp)
       ·rw [if_neg c6] at H
        exact absurd H (by simp)
    ·rw [if_neg c3] at H
     exact absurd H (by simp)
   ·rw [if_neg c2] at H
    have c2b0 : decide (x4_1 < (l0.length : Int)) = false := decide_eq_false c2
    clear c2
    obtain rfl := Option.some.inj H
    go_wp2
    go_ret
    exact ⟨_, ret_now, by (with_reducible repeat (first | apply Kd.S_alloc | apply Kd.S_drewN | apply Kd.S_drew)); exact HO_3.out, b_now⟩

end Go.Proofs.YtighficpbplkhaaDoor.P
