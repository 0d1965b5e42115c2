/- Made by this session's driver over the kit's printer: for each Go function a Lean function with the same answers, and a proof that the Go call comes to these answers; no conditions but the ones each theorem names. -/
import Derived.Test.YtkojjjdeacdabaaDoorPx0
import Derived.Test.YtkojjjdeacdabaaDoorPx1
import Derived.Test.YtkojjjdeacdabaaDoorPx10
import Derived.Test.YtkojjjdeacdabaaDoorPx12
namespace Go.Proofs.YtkojjjdeacdabaaDoor.P
open Go.RowKit Go.Proofs.YtkojjjdeacdabaaDoorW.PrintWords Go.Proofs.YtkojjjdeacdabaaDoorW.PrintLast Go.Proofs.YtkojjjdeacdabaaDoorW.PrintMore
attribute [local go_sem] max2_int min2_int max_two min_two max_three min_three max_four min_four   -- for this text's walks alone
set_option linter.unusedVariables false
set_option linter.unusedSimpArgs false

attribute [local go_sem high] eqA24
/-! ### stockadelaw02_same: function 18 -/
def stockadelaw02_same.l0 : Nat → List Int → List Int → Int → Option (Bool)
 | 0, _, _, _ => none
 | k + 1, x0, x1, x5 => if x5 < (x0.length : Int) then (if 0 ≤ x5 then (if x5 < (x1.length : Int) then (if (rd x0 x5) = (rd x1 x5) then (stockadelaw02_same.l0 k x0 x1 (wrap64 (x5 + 1))) else (some false)) else (none)) else (none)) else (some true)
def stockadelaw02_same.f (k : Nat) (l0 : List Int) (l1 : List Int) : Option (Bool) := if (l0.length : Int) = (l1.length : Int) then (stockadelaw02_same.l0 k l0 l1 0) else (some false)
theorem stockadelaw02_same.mono_l : ∀ k, (∀ y0 y1 y2, LeO (stockadelaw02_same.l0 k y0 y1 y2) (stockadelaw02_same.l0 (k + 1) y0 y1 y2))
 | 0 => fun _ _ _ r h => by simp [stockadelaw02_same.l0] at h
 | k + 1 => by
  have ih0 := stockadelaw02_same.mono_l k
  ·intro y0 y1 y2
   unfold stockadelaw02_same.l0
   repeat' first
   | (with_reducible exact ih0 _ _ _)
   | (with_reducible exact LeO.refl _)
   | (with_reducible exact LeO.none _)
   | (with_reducible refine LeO.ite ?_ ?_)
   | (with_reducible refine LeO.bind ?_ (fun _ => ?_))
   | exact ih0 _ _ _
   | exact LeO.none _
   | refine LeO.ite ?_ ?_
   | refine LeO.bind ?_ (fun _ => ?_)
theorem stockadelaw02_same.mono : ∀ a0 a1 k, LeO (stockadelaw02_same.f k a0 a1) (stockadelaw02_same.f (k + 1) a0 a1) := by
 intro a0 a1 k
 have ih0 := stockadelaw02_same.mono_l k
 unfold stockadelaw02_same.f
 repeat' first
   | (with_reducible exact ih0 _ _ _)
   | (with_reducible exact LeO.refl _)
   | (with_reducible exact LeO.none _)
   | (with_reducible refine LeO.ite ?_ ?_)
   | (with_reducible refine LeO.bind ?_ (fun _ => ?_))
   | exact ih0 _ _ _
   | exact LeO.none _
   | refine LeO.ite ?_ ?_
   | refine LeO.bind ?_ (fun _ => ?_)
set_option maxHeartbeats 8000000 in
set_option maxRecDepth 100000 in
theorem stockadelaw02_same.calls (k : Nat) (A0 : Option Addr) (c0 : Nat) (l0 : List Int) (A1 : Option Addr) (c1 : Nat) (l1 : List Int) (r : Bool) (w : World) (hr0 : Kd.C (Kd.int .u8) w A0 l0.length l0) (hc0 : l0.length ≤ c0) (hr1 : Kd.C (Kd.int .u8) w A1 l1.length l1) (hc1 : l1.length ≤ c1) (h : stockadelaw02_same.f k l0 l1 = some r) :
  Calls Tryd.prog 18 #[.slice A0 l0.length c0, .slice A1 l1.length c1] w fun e w' => e = .returned (.bool r) ∧ Drawn0 w w' := by
 have HR0 := Aside0.mk hr0
 have HC0 := Aside0.mk hc0
 clear hr0 hc0
 have HR1 := Aside0.mk hr1
 have HC1 := Aside0.mk hc1
 clear hr1 hc1
 have H : (if (l0.length : Int) = (l1.length : Int) then (stockadelaw02_same.l0 k l0 l1 0) else (some false)) = some r := h
 clear h
 by_cases c3 : (l0.length : Int) = (l1.length : Int)
 ·rw [if_pos c3] at H
  have c3b0 : ((l0.length : Int) == (l1.length : Int)) = true := beq_iff_eq.mpr c3
  have c3b1 : ((l0.length : Int) != (l1.length : Int)) = false := bne_eq_false_iff_eq.mpr c3
  have c3b2 : (l0.length == l1.length) = true := by first | simpa using c3 | (simp at c3 ⊢; omega)
  clear c3
  have H' := Aside0.mk H
  clear H
  go_enter Tryd.func18, Tryd.ntmps18
  go_wp2
  repeat (go_quiet (fail); try go_wp2)
  go_loopg [5] k (fun kq v5 w' => ∃ (x5_1 : Int), v5 = .int .i64 x5_1 ∧ Aside0 (stockadelaw02_same.l0 kq l0 l1 x5_1 = some r) ∧ Aside0 (kq ≤ k) ∧ Drawn0 w w')
  case atStart => exact ⟨(0), eq_now, H', ⟨Nat.le_refl _⟩, by repeat (first | exact Drawn0.refl _ | apply Drawn0.step)⟩
  case round =>
   clear H'
   try clear c1
   try clear p2
   try clear c3
   try clear c3b0
   try clear c3b1
   try clear c3b2
   obtain ⟨x5_1, rfl, HA, HK1, ⟨m1, rfl⟩⟩ := hrel
   cases gk with
   | zero => exact absurd HA.out (by simp [stockadelaw02_same.l0])
   | succ k1 =>
    have H := HA.out
    clear HA
    simp only [stockadelaw02_same.l0] at H
    by_cases c4 : x5_1 < (l0.length : Int)
    ·rw [if_pos c4] at H
     have c4b0 : decide (x5_1 < (l0.length : Int)) = true := decide_eq_true c4
     clear c4
     by_cases c5 : 0 ≤ x5_1
     ·rw [if_pos c5] at H
      have c5b0 : decide (0 ≤ x5_1) = true := decide_eq_true c5
      clear c5
      by_cases c6 : x5_1 < (l1.length : Int)
      ·rw [if_pos c6] at H
       have c6b0 : decide (x5_1 < (l1.length : Int)) = true := decide_eq_true c6
       clear c6
       by_cases c7 : (rd l0 x5_1) = (rd l1 x5_1)
       ·rw [if_pos c7] at H
        have c7b0 : ((rd l0 x5_1) == (rd l1 x5_1)) = true := beq_iff_eq.mpr c7
        have c7b1 : ((rd l0 x5_1) != (rd l1 x5_1)) = false := bne_eq_false_iff_eq.mpr c7
        clear c7
        have H' := Aside0.mk H
        clear H
        have p321 : 0 ≤ (x5_1 : Int) := of_decide_eq_true (by first | (with_reducible assumption) | assumption)
        have q321 : x5_1 < (l0.length : Int) := of_decide_eq_true (by first | (with_reducible assumption) | assumption)
        obtain ⟨ad321, e321, hx321_0⟩ := Kd.at_int HR0.out x5_1 p321 q321
        cases e321
        replace p321 := eq_true p321
        replace q321 := eq_true q321
        have p322 : 0 ≤ (x5_1 : Int) := of_decide_eq_true (by first | (with_reducible assumption) | assumption)
        have q322 : x5_1 < (l1.length : Int) := of_decide_eq_true (by first | (with_reducible assumption) | assumption)
        obtain ⟨ad322, e322, hx322_0⟩ := Kd.at_int HR1.out x5_1 p322 q322
        cases e322
        replace p322 := eq_true p322
        replace q322 := eq_true q322
        go_wp2
        repeat (go_quiet (fail); try go_wp2)
        go_roundg k1
        case measure => have := HK1.out; omega
        case rel => exact ⟨(wrap64 (x5_1 + 1)), eq_now, H', ⟨by have := HK1.out; omega⟩, by repeat (first | exact Drawn0.refl _ | apply Drawn0.step)⟩
       ·rw [if_neg c7] at H
        have c7b0 : ((rd l0 x5_1) == (rd l1 x5_1)) = false := beq_eq_false_iff_ne.mpr c7
        have c7b1 : ((rd l0 x5_1) != (rd l1 x5_1)) = true := bne_iff_ne.mpr c7
        obtain rfl := Option.some.inj H
        have p321 : 0 ≤ (x5_1 : Int) := of_decide_eq_true (by first | (with_reducible assumption) | assumption)
        have q321 : x5_1 < (l0.length : Int) := of_decide_eq_true (by first | (with_reducible assumption) | assumption)
        obtain ⟨ad321, e321, hx321_0⟩ := Kd.at_int HR0.out x5_1 p321 q321
        cases e321
        replace p321 := eq_true p321
        replace q321 := eq_true q321
        have p322 : 0 ≤ (x5_1 : Int) := of_decide_eq_true (by first | (with_reducible assumption) | assumption)
        have q322 : x5_1 < (l1.length : Int) := of_decide_eq_true (by first | (with_reducible assumption) | assumption)
        obtain ⟨ad322, e322, hx322_0⟩ := Kd.at_int HR1.out x5_1 p322 q322
        cases e322
        replace p322 := eq_true p322
        replace q322 := eq_true q322
        go_wp2
        repeat (go_quiet (fail); try go_wp2)
        go_ret
        exact ⟨by first | rfl | (simp; done) | (simp [*]; done), by repeat (first | exact Drawn0.refl _ | apply Drawn0.step)⟩
      ·rw [if_neg c6] at H
       exact absurd H (by simp)
     ·rw [if_neg c5] at H
      exact absurd H (by simp)
    ·rw [if_neg c4] at H
     have c4b0 : decide (x5_1 < (l0.length : Int)) = false := decide_eq_false c4
     clear c4
     obtain rfl := Option.some.inj H
     go_wp2
     repeat (go_quiet (fail); try go_wp2)
     go_ret
     exact ⟨by first | rfl | (simp; done) | (simp [*]; done), by repeat (first | exact Drawn0.refl _ | apply Drawn0.step)⟩
 ·rw [if_neg c3] at H
  have c3b0 : ((l0.length : Int) == (l1.length : Int)) = false := beq_eq_false_iff_ne.mpr c3
  have c3b1 : ((l0.length : Int) != (l1.length : Int)) = true := bne_iff_ne.mpr c3
  have c3b2 : (l0.length == l1.length) = false := by first | simpa using c3 | (simp at c3 ⊢; omega)
  obtain rfl := Option.some.inj H
  go_enter Tryd.func18, Tryd.ntmps18
  go_wp2
  repeat (go_quiet (fail); try go_wp2)
  go_ret
  exact ⟨by first | rfl | (simp; done) | (simp [*]; done), by repeat (first | exact Drawn0.refl _ | apply Drawn0.step)⟩

/-! ### stockadelaw02_InsnReads: function 4 -/
def stockadelaw02_InsnReads.f (k : Nat) (l0 : List Int) : Option (Bool) := if ([] : List Int).length + l0.length < 140737488355328 then ((some (([] : List Int) ++ l0 : List Int)).bind fun y323 => ((insn_Decode.f y323).bind fun bt326 => ((stockaderef02_Decode.f l0).bind fun bt333 => (if bt326.2.2.2.2.2 = bt333.2.2.2.2.2 then (if (bt326.1 == bt333.1 && (bt326.2.1 == bt333.2.1 && (bt326.2.2.1 == bt333.2.2.1 && (bt326.2.2.2.1 == bt333.2.2.2.1 && (bt326.2.2.2.2.1 == bt333.2.2.2.2.1))))) = true then ((stockadelaw02_same.f k y323 l0).bind fun t340 => (if t340 = true then ((stockadelaw02_wakes.f k).bind fun t341 => (some t341)) else (some false))) else (some false)) else (some false))))) else (none)
theorem stockadelaw02_InsnReads.mono : ∀ a0 k, LeO (stockadelaw02_InsnReads.f k a0) (stockadelaw02_InsnReads.f (k + 1) a0) := by
 intro a0 k
 unfold stockadelaw02_InsnReads.f
 repeat' first
   | (with_reducible exact stockadelaw02_same.mono _ _ _)
   | (with_reducible exact stockadelaw02_wakes.mono _)
   | (with_reducible exact LeO.refl _)
   | (with_reducible exact LeO.none _)
   | (with_reducible refine LeO.ite ?_ ?_)
   | (with_reducible refine LeO.bind ?_ (fun _ => ?_))
   | exact stockadelaw02_same.mono _ _ _
   | exact stockadelaw02_wakes.mono _
   | exact LeO.none _
   | refine LeO.ite ?_ ?_
   | refine LeO.bind ?_ (fun _ => ?_)
set_option maxHeartbeats 8000000 in
set_option maxRecDepth 100000 in
theorem stockadelaw02_InsnReads.calls (k : Nat) (A0 : Option Addr) (c0 : Nat) (l0 : List Int) (r : Bool) (w : World) (hr0 : Kd.C (Kd.int .u8) w A0 l0.length l0) (hc0 : l0.length ≤ c0) (hrG0 : Kd.C (Kd.int .i64) w (some ⟨0, 0, none⟩) gl0.length gl0) (hr_ : r = true) (h : stockadelaw02_InsnReads.f k l0 = some r) :
  Calls Tryd.prog 4 #[.slice A0 l0.length c0] w fun e w' => e = .returned (.bool r) ∧ Below w.heap.size w w' := by
 have hu24 := Tryd.underlying24
 have HR0 := Aside0.mk hr0
 have HC0 := Aside0.mk hc0
 clear hr0 hc0
 have HRG0 := Aside0.mk hrG0
 clear hrG0
 have HRT := Aside0.mk hr_
 clear hr_
 have HB := Aside0.mk (Below.refl w.heap.size w)
 have H : (if ([] : List Int).length + l0.length < 140737488355328 then ((some (([] : List Int) ++ l0 : List Int)).bind fun y323 => ((insn_Decode.f y323).bind fun bt326 => ((stockaderef02_Decode.f l0).bind fun bt333 => (if bt326.2.2.2.2.2 = bt333.2.2.2.2.2 then (if (bt326.1 == bt333.1 && (bt326.2.1 == bt333.2.1 && (bt326.2.2.1 == bt333.2.2.1 && (bt326.2.2.2.1 == bt333.2.2.2.1 && (bt326.2.2.2.2.1 == bt333.2.2.2.2.1))))) = true then ((stockadelaw02_same.f k y323 l0).bind fun t340 => (if t340 = true then ((stockadelaw02_wakes.f k).bind fun t341 => (some t341)) else (some false))) else (some false)) else (some false))))) else (none)) = some r := h
 clear h
 by_cases c2 : ([] : List Int).length + l0.length < 140737488355328
 ·rw [if_pos c2] at H
  have LMc2 := Aside0.mk c2
  clear c2
  obtain ⟨y323, hy323⟩ : ∃ y_ : List Int, y_ = (([] : List Int) ++ l0) := ⟨_, rfl⟩
  replace H : ((insn_Decode.f y323).bind fun bt326 => ((stockaderef02_Decode.f l0).bind fun bt333 => (if bt326.2.2.2.2.2 = bt333.2.2.2.2.2 then (if (bt326.1 == bt333.1 && (bt326.2.1 == bt333.2.1 && (bt326.2.2.1 == bt333.2.2.1 && (bt326.2.2.2.1 == bt333.2.2.2.1 && (bt326.2.2.2.2.1 == bt333.2.2.2.2.1))))) = true then ((stockadelaw02_same.f k y323 l0).bind fun t340 => (if t340 = true then ((stockadelaw02_wakes.f k).bind fun t341 => (some t341)) else (some false))) else (some false)) else (some false)))) = some r := by first | (rw [hy323]; with_reducible exact H) | (have H2_ := (Option.bind_some _ _).symm.trans H; rw [hy323]; with_reducible exact H2_) | (have H2_ := (Option.bind_some _ _).symm.trans H; with_reducible exact H2_) | with_reducible exact H | (rw [hy323]; exact H) | exact H
  have Ny323 := Aside0.mk hy323
  clear hy323
  replace H := Option.bind_eq_some_iff.mp H; obtain ⟨⟨t326, t327, t328, t329, t330, t331⟩, A30, H⟩ := H; try dsimp only at H
  have A3 := Aside0.mk A30
  clear A30
  replace H := Option.bind_eq_some_iff.mp H; obtain ⟨⟨t333, t334, t335, t336, t337, t338⟩, A40, H⟩ := H; try dsimp only at H
  have A4 := Aside0.mk A40
  clear A40
  by_cases c5 : t331 = t338
  ·rw [if_pos c5] at H
   have c5b0 : (t331 == t338) = true := beq_iff_eq.mpr c5
   have c5b1 : (t331 != t338) = false := bne_eq_false_iff_eq.mpr c5
   clear c5
   by_cases c6 : (t326 == t333 && (t327 == t334 && (t328 == t335 && (t329 == t336 && (t330 == t337))))) = true
   ·rw [if_pos c6] at H
    have c6b0 : (t326 == t333 && (t327 == t334 && (t328 == t335 && (t329 == t336 && (t330 == t337))))) = true := c6
    (try (have c6b1 : decide (t326 = t333 && (t327 == t334 && (t328 == t335 && (t329 == t336 && (t330 == t337))))) = true := by simpa using c6))
    (try (have c6b2 : (t326 == t333 && (t327 == t334 && (t328 == t335 && (t329 == t336 && (t330 == t337))))) = true := by simpa using c6))
    clear c6
    replace H := Option.bind_eq_some_iff.mp H; obtain ⟨t340, A70, H⟩ := H; try dsimp only at H
    have A7 := Aside0.mk A70
    clear A70
    by_cases c8 : t340 = true
    ·subst c8
     replace H := sh_t H
     replace H := Option.bind_eq_some_iff.mp H; obtain ⟨t341, A90, H⟩ := H; try dsimp only at H
     have A9 := Aside0.mk A90
     clear A90
     obtain rfl := Option.some.inj H
     go_enter Tryd.func4, Tryd.ntmps4
     go_wp2_with (first | ((with_reducible refine gate_builtin (b := .append) (xs := #[.const (.slice none 0 0), .tmp 8]) rfl ?_); at_builtin; refine Kd.R_append_rows (Kd.int .u8) (w0 := w) w.heap.size rfl (.const (.slice none 0 0)) (.tmp 8) 36 5 (.int .u8 0) 1 rfl Tryd.underlying36 info5 rfl (by decide) (by omega) (.slice none 0 0) ([] : List Int) l0 _ _ _ (fun _ => True) (fun _ => False) rfl rfl ?aO ?aR (fun _ _ h => h) (fun _ h => h.elim) ?aF ?aB ?aS ?aL ?_; (case aR => repeat (first | exact HR0.out | (with_reducible refine Kd.C_alloc ?_ _) | (with_reducible refine Kd.C_drewN ?_ _) | (with_reducible refine Kd.C_drew ?_))); (case aB => exact b_now); (case aF => exact (fun _ _ => trivial)); (case aO => exact ((Kd.R_nil _ _ _ _ (fun _ => True)))); (case aS => exact (below_size b_now)); (case aL => have := LMc2.out; omega); intro v324 w10 ho hb hg hat; rw [← Ny323.out] at ho; have HO325 := Aside0.mk (ho); replace HB := Aside0.mk (hb); clear ho hb hg hat; obtain ⟨Ao11, co11, eo11⟩ := Kd.R_slice HO325.out; subst eo11) | ((with_reducible refine gate_callee (f := 16) rfl ?_); refine sh_call (some 12) Tryd.func16 #[.slice Ao11 y323.length co11] ?_; (with_reducible refine (insn_Decode.calls _ _ y323 t326 t327 t328 t329 t330 t331 _ ?side1 ?side2 A3.out).mono ?_); (case side1 => repeat (first | exact (Kd.R_reads' HO325.out).2.2 | (with_reducible refine Kd.C_alloc ?_ _) | (with_reducible refine Kd.C_drewN ?_ _) | (with_reducible refine Kd.C_drew ?_))); (case side2 => exact (Kd.R_reads' HO325.out).2.1); rintro e w12 ⟨rfl, hb⟩; refine ⟨_, rfl, ?_⟩; replace HO325 := Aside0.mk (Kd.R_below (by (with_reducible repeat (first | apply Kd.R_alloc | apply Kd.R_drewN | apply Kd.R_drew)); exact HO325.out) hb); replace HB := sh_b (w := w) hb; (try clear hb); (try clear hb2); (try clear hk); (try clear hi)) | ((with_reducible refine gate_dst (N := 4) rfl ?_); refine sh_box 4 #[.int .u8 0, .int .u8 0, .int .u8 0, .int .i16 0, .int .i32 0] 24 ?_; intro gb332 hg w13 hbox hb; have GE332 := sh_z (w := w) hg; replace HO325 := Aside0.mk (Kd.R_below (by (with_reducible repeat (first | apply Kd.R_alloc | apply Kd.R_drewN | apply Kd.R_drew)); exact HO325.out) hb); replace HB := sh_b (w := w) hb; have BK332 := Aside0.mk (hbox); clear hb hbox hg; have hcz14 := blk_all5 BK332.out) | ((with_reducible refine gate_callee (f := 17) rfl ?_); refine sh_call (some 17) Tryd.func17 #[.slice A0 l0.length c0] ?_; (with_reducible refine (stockaderef02_Decode.calls _ _ l0 t333 t334 t335 t336 t337 t338 _ ?side1 ?side2 A4.out).mono ?_); (case side1 => exact Kd.C_below HR0.out b_now); (case side2 => exact HC0.out); rintro e w15 ⟨rfl, hb⟩; refine ⟨_, rfl, ?_⟩; replace HO325 := Aside0.mk (Kd.R_below (by (with_reducible repeat (first | apply Kd.R_alloc | apply Kd.R_drewN | apply Kd.R_drew)); exact (Kd.R_mono (Kd.R_far (p := ⟨gb332, 4, none⟩) (Kd.R_far (p := ⟨gb332, 3, none⟩) (Kd.R_far (p := ⟨gb332, 2, none⟩) (Kd.R_far (p := ⟨gb332, 1, none⟩) (Kd.R_far (p := ⟨gb332, 0, none⟩) (Kd.R_types HO325.out BK332.out (by decide)) (fun _ hk => hk.2) (.int .u8 t326)) (fun _ hk => hk.2) (.int .u8 t327)) (fun _ hk => hk.2) (.int .u8 t328)) (fun _ hk => hk.2) (.int .i16 t329)) (fun _ hk => hk.2) (.int .i32 t330)) (fun _ h_ => h_.1))) hb); replace BK332 := sh_kp (g := gb332) (t := 24) #[.int .u8 t326, .int .u8 t327, .int .u8 t328, .int .i16 t329, .int .i32 t330] hb; replace HB := sh_b (w := w) hb; (try clear hb); (try clear hb2); (try clear hk); (try clear hi)) | ((with_reducible refine gate_dst (N := 6) rfl ?_); refine sh_box 6 #[.int .u8 0, .int .u8 0, .int .u8 0, .int .i16 0, .int .i32 0] 24 ?_; intro gb339 hg w16 hbox hb; have GE339 := sh_z (w := w) hg; have NB332_339 := sh_n BK332 hg; have NB339_332 := sh_s NB332_339; replace HO325 := Aside0.mk (Kd.R_below (by (with_reducible repeat (first | apply Kd.R_alloc | apply Kd.R_drewN | apply Kd.R_drew)); exact HO325.out) hb); replace BK332 := sh_k BK332 hb; replace HB := sh_b (w := w) hb; have BK339 := Aside0.mk (hbox); clear hb hbox hg; have hnb17 := NB339_332.out; have hnc17 := NB332_339.out; have hcz18 := blk_all5 BK339.out; have hcz19 := blk_all5 BK332.out) | (go_at_call 18; (with_reducible refine (stockadelaw02_same.calls k _ _ y323 _ _ l0 true _ ?side1 ?side2 ?side3 ?side4 A7.out).mono ?_); (case side1 => refine (Kd.R_reads' (e := 5) (base := w.heap.size) (ok := fun k_ => True) (n := y323.length) (c := co11) ?_).2.2; exact (by (with_reducible repeat (first | apply Kd.R_alloc | apply Kd.R_drewN | apply Kd.R_drew)); exact (Kd.R_mono (Kd.R_far (p := ⟨gb339, 4, none⟩) (Kd.R_far (p := ⟨gb339, 3, none⟩) (Kd.R_far (p := ⟨gb339, 2, none⟩) (Kd.R_far (p := ⟨gb339, 1, none⟩) (Kd.R_far (p := ⟨gb339, 0, none⟩) (Kd.R_types HO325.out BK339.out (by decide)) (fun _ hk => hk.2) (.int .u8 t333)) (fun _ hk => hk.2) (.int .u8 t334)) (fun _ hk => hk.2) (.int .u8 t335)) (fun _ hk => hk.2) (.int .i16 t336)) (fun _ hk => hk.2) (.int .i32 t337)) (fun _ h_ => h_.1)))); (case side2 => exact (Kd.R_reads' HO325.out).2.1); (case side3 => exact Kd.C_below HR0.out b_now); (case side4 => exact HC0.out); rintro e w' ⟨rfl, ⟨nd, rfl⟩⟩) | (go_at_call 15; (with_reducible refine (stockadelaw02_wakes.calls k  t341 _ ?side1 (by first | rfl | exact HRT.out) A9.out).mono ?_); (case side1 => exact Kd.C_below HRG0.out b_now); rintro e w20 ⟨rfl, hb⟩; replace HO325 := Aside0.mk (Kd.R_below (by (with_reducible repeat (first | apply Kd.R_alloc | apply Kd.R_drewN | apply Kd.R_drew)); exact (Kd.R_mono (Kd.R_far (p := ⟨gb339, 4, none⟩) (Kd.R_far (p := ⟨gb339, 3, none⟩) (Kd.R_far (p := ⟨gb339, 2, none⟩) (Kd.R_far (p := ⟨gb339, 1, none⟩) (Kd.R_far (p := ⟨gb339, 0, none⟩) (Kd.R_types HO325.out BK339.out (by decide)) (fun _ hk => hk.2) (.int .u8 t333)) (fun _ hk => hk.2) (.int .u8 t334)) (fun _ hk => hk.2) (.int .u8 t335)) (fun _ hk => hk.2) (.int .i16 t336)) (fun _ hk => hk.2) (.int .i32 t337)) (fun _ h_ => h_.1))) hb); replace BK332 := sh_kp (g := gb332) (t := 24) #[.int .u8 t326, .int .u8 t327, .int .u8 t328, .int .i16 t329, .int .i32 t330] hb; replace BK339 := sh_kp (g := gb339) (t := 24) #[.int .u8 t333, .int .u8 t334, .int .u8 t335, .int .i16 t336, .int .i32 t337] hb; replace HB := sh_b (w := w) hb; (try clear hb); (try clear hb2); (try clear hk); (try clear hi)))
     go_ret
     exact ⟨ret_now, b_now⟩
    ·replace c8 := Bool.eq_false_iff.mpr c8
     subst c8
     replace H := sh_f H
     obtain rfl := Option.some.inj H
     exact absurd HRT.out (by simp)
   ·rw [if_neg c6] at H
    have c6b0 : (t326 == t333 && (t327 == t334 && (t328 == t335 && (t329 == t336 && (t330 == t337))))) = false := by simpa using c6
    (try (have c6b1 : decide (t326 = t333 && (t327 == t334 && (t328 == t335 && (t329 == t336 && (t330 == t337))))) = false := by simpa using c6))
    (try (have c6b2 : (t326 == t333 && (t327 == t334 && (t328 == t335 && (t329 == t336 && (t330 == t337))))) = false := by simpa using c6))
    (try (have c6b3 : ¬ (t326 = t333 && (t327 == t334 && (t328 == t335 && (t329 == t336 && (t330 == t337))))) := by simpa using c6))
    clear c6
    obtain rfl := Option.some.inj H
    exact absurd HRT.out (by simp)
  ·rw [if_neg c5] at H
   have c5b0 : (t331 == t338) = false := beq_eq_false_iff_ne.mpr c5
   have c5b1 : (t331 != t338) = true := bne_iff_ne.mpr c5
   obtain rfl := Option.some.inj H
   exact absurd HRT.out (by simp)
 ·rw [if_neg c2] at H
  exact absurd H (by simp)

/-! ### insn_Encode: function 19 -/
def insn_Encode.f (a0_0 : Int) (a0_1 : Int) (a0_2 : Int) (a0_3 : Int) (a0_4 : Int) : Option (List Int × Int) := if a0_1 > 15 then (some (([] : List Int), 21)) else (if a0_2 > 15 then (some (([] : List Int), 21)) else (some ((([a0_0, Go.bits .or .u8 a0_1 ((a0_2 * 16) % 256), (IntKind.u16.wrap (a0_3)) % 256, ((IntKind.u16.wrap (a0_3)) / 256) % 256, ((a0_4) % 4294967296) % 256, (((a0_4) % 4294967296) / 256) % 256, (((a0_4) % 4294967296) / 65536) % 256, ((a0_4) % 4294967296) / 16777216] : List Int)), 0)))
set_option maxHeartbeats 8000000 in
set_option maxRecDepth 100000 in
theorem insn_Encode.calls (a0_0 : Int) (a0_1 : Int) (a0_2 : Int) (a0_3 : Int) (a0_4 : Int) (r1 : List Int) (r2 : Int) (w : World) (h : insn_Encode.f a0_0 a0_1 a0_2 a0_3 a0_4 = some (r1, r2)) :
  Calls Tryd.prog 19 #[.agg #[.int .u8 a0_0, .int .u8 a0_1, .int .u8 a0_2, .int .i16 a0_3, .int .i32 a0_4]] w fun e w' => ∃ v0_ : Value, e = .returned (.tuple #[v0_, .int .i64 r2]) ∧ Kd.R (Kd.int .u8) 5 w' w.heap.size (fun _ => True) v0_ r1 ∧ Below w.heap.size w w' := by
 have hu24 := Tryd.underlying24
 have HB := Aside0.mk (Below.refl w.heap.size w)
 have H : (if a0_1 > 15 then (some (([] : List Int), 21)) else (if a0_2 > 15 then (some (([] : List Int), 21)) else (some ((([a0_0, Go.bits .or .u8 a0_1 ((a0_2 * 16) % 256), (IntKind.u16.wrap (a0_3)) % 256, ((IntKind.u16.wrap (a0_3)) / 256) % 256, ((a0_4) % 4294967296) % 256, (((a0_4) % 4294967296) / 256) % 256, (((a0_4) % 4294967296) / 65536) % 256, ((a0_4) % 4294967296) / 16777216] : List Int)), 0)))) = some (r1, r2) := h
 clear h
 by_cases c2 : a0_1 > 15
 ·rw [if_pos c2] at H
  have c2b0 : decide (15 < a0_1) = true := decide_eq_true c2
  clear c2
  simp only [Option.some.injEq, Prod.mk.injEq] at H
  obtain ⟨rfl, rfl⟩ := H
  go_enter Tryd.func19, Tryd.ntmps19
  go_wp2_with (first | ((with_reducible refine gate_dst (N := 1) rfl ?_); refine sh_box 1 #[.int .u8 a0_0, .int .u8 a0_1, .int .u8 a0_2, .int .i16 a0_3, .int .i32 a0_4] 24 ?_; intro gb342 hg w3 hbox hb; have GE342 := sh_z (w := w) hg; replace HB := sh_b (w := w) hb; have BK342 := Aside0.mk (hbox); clear hb hbox hg; have hcz4 := blk_all5 BK342.out))
  go_ret2
  exact ⟨_, ret_now, by first | exact Kd.R_nil _ _ _ _ _ | exact Kd.N_nil _ _ _ _ _ | exact Kd.V_nil _ _ _ _ _ | exact Kd.Q_nil _ _ _ _ _ | exact Kd.S_nil _ _ _ _ _, b_now⟩
 ·rw [if_neg c2] at H
  have c2b0 : decide (15 < a0_1) = false := decide_eq_false c2
  clear c2
  by_cases c5 : a0_2 > 15
  ·rw [if_pos c5] at H
   have c5b0 : decide (15 < a0_2) = true := decide_eq_true c5
   clear c5
   simp only [Option.some.injEq, Prod.mk.injEq] at H
   obtain ⟨rfl, rfl⟩ := H
   go_enter Tryd.func19, Tryd.ntmps19
   go_wp2_with (first | ((with_reducible refine gate_dst (N := 1) rfl ?_); refine sh_box 1 #[.int .u8 a0_0, .int .u8 a0_1, .int .u8 a0_2, .int .i16 a0_3, .int .i32 a0_4] 24 ?_; intro gb342 hg w6 hbox hb; have GE342 := sh_z (w := w) hg; replace HB := sh_b (w := w) hb; have BK342 := Aside0.mk (hbox); clear hb hbox hg; have hcz7 := blk_all5 BK342.out))
   go_ret2
   exact ⟨_, ret_now, by first | exact Kd.R_nil _ _ _ _ _ | exact Kd.N_nil _ _ _ _ _ | exact Kd.V_nil _ _ _ _ _ | exact Kd.Q_nil _ _ _ _ _ | exact Kd.S_nil _ _ _ _ _, b_now⟩
  ·rw [if_neg c5] at H
   have c5b0 : decide (15 < a0_2) = false := decide_eq_false c5
   clear c5
   obtain ⟨y343, hy343⟩ : ∃ y_ : List Int, y_ = (([a0_0, Go.bits .or .u8 a0_1 ((a0_2 * 16) % 256), (IntKind.u16.wrap (a0_3)) % 256, ((IntKind.u16.wrap (a0_3)) / 256) % 256, ((a0_4) % 4294967296) % 256, (((a0_4) % 4294967296) / 256) % 256, (((a0_4) % 4294967296) / 65536) % 256, ((a0_4) % 4294967296) / 16777216] : List Int)) := ⟨_, rfl⟩
   replace H : (some (y343, 0)) = some (r1, r2) := by first | (rw [hy343]; with_reducible exact H) | (have H2_ := (Option.bind_some _ _).symm.trans H; rw [hy343]; with_reducible exact H2_) | (have H2_ := (Option.bind_some _ _).symm.trans H; with_reducible exact H2_) | with_reducible exact H | (rw [hy343]; exact H) | exact H
   have Ny343 := Aside0.mk hy343
   clear hy343
   simp only [Option.some.injEq, Prod.mk.injEq] at H
   obtain ⟨rfl, rfl⟩ := H
   go_enter Tryd.func19, Tryd.ntmps19
   go_wp2_with (first | ((with_reducible refine gate_dst (N := 1) rfl ?_); refine sh_box 1 #[.int .u8 a0_0, .int .u8 a0_1, .int .u8 a0_2, .int .i16 a0_3, .int .i32 a0_4] 24 ?_; intro gb342 hg w8 hbox hb; have GE342 := sh_z (w := w) hg; replace HB := sh_b (w := w) hb; have BK342 := Aside0.mk (hbox); clear hb hbox hg; have hcz9 := blk_all5 BK342.out) | ((with_reducible refine gate_dst (N := 44) rfl ?_); refine Kd.R_lit (Kd.int .u8) _ 5 ?hg (N := 44) ?hd (xs := ([a0_0, Go.bits .or .u8 a0_1 ((a0_2 * 16) % 256), (IntKind.u16.wrap (a0_3)) % 256, ((IntKind.u16.wrap (a0_3)) / 256) % 256, ((a0_4) % 4294967296) % 256, (((a0_4) % 4294967296) / 256) % 256, (((a0_4) % 4294967296) / 65536) % 256, ((a0_4) % 4294967296) / 16777216] : List Int)) (inner := [.int .u8 a0_0, .int .u8 (Go.bits .or .u8 a0_1 ((a0_2 * 16) % 256)), .int .u8 ((IntKind.u16.wrap (a0_3)) % 256), .int .u8 (((IntKind.u16.wrap (a0_3)) / 256) % 256), .int .u8 (((a0_4) % 4294967296) % 256), .int .u8 ((((a0_4) % 4294967296) / 256) % 256), .int .u8 ((((a0_4) % 4294967296) / 65536) % 256), .int .u8 (((a0_4) % 4294967296) / 16777216)]) (ok := fun _ => True) (okp := fun _ => True) ?hr ?hp (fun _ hk => hk) trivial (Below.refl _ _) (Nat.le_refl _) (by simp) ?_; (case hd => rfl); (case hg => rfl); (case hr => first | (go_simp; done) | (go_simp; rfl)); (case hp => exact (Reps.one (show Kd.M (Kd.int .u8) _ _ _ a0_0 [.int .u8 a0_0] from rfl) (Reps.one (show Kd.M (Kd.int .u8) _ _ _ (Go.bits .or .u8 a0_1 ((a0_2 * 16) % 256)) [.int .u8 (Go.bits .or .u8 a0_1 ((a0_2 * 16) % 256))] from rfl) (Reps.one (show Kd.M (Kd.int .u8) _ _ _ ((IntKind.u16.wrap (a0_3)) % 256) [.int .u8 ((IntKind.u16.wrap (a0_3)) % 256)] from rfl) (Reps.one (show Kd.M (Kd.int .u8) _ _ _ (((IntKind.u16.wrap (a0_3)) / 256) % 256) [.int .u8 (((IntKind.u16.wrap (a0_3)) / 256) % 256)] from rfl) (Reps.one (show Kd.M (Kd.int .u8) _ _ _ (((a0_4) % 4294967296) % 256) [.int .u8 (((a0_4) % 4294967296) % 256)] from rfl) (Reps.one (show Kd.M (Kd.int .u8) _ _ _ ((((a0_4) % 4294967296) / 256) % 256) [.int .u8 ((((a0_4) % 4294967296) / 256) % 256)] from rfl) (Reps.one (show Kd.M (Kd.int .u8) _ _ _ ((((a0_4) % 4294967296) / 65536) % 256) [.int .u8 ((((a0_4) % 4294967296) / 65536) % 256)] from rfl) (Reps.one (show Kd.M (Kd.int .u8) _ _ _ (((a0_4) % 4294967296) / 16777216) [.int .u8 (((a0_4) % 4294967296) / 16777216)] from rfl) (Reps.none _ _)))))))))); intro v344 w10 ho11 hb hg_ hnew_; clear hg_ hnew_; (first | rw [← Ny343.out] at ho11 | (simp only [Int.reduceToNat] at ho11; rw [← Ny343.out] at ho11)); have HO345 := Aside0.mk (Kd.R_lower ho11 (below_size b_now)); replace BK342 := sh_k BK342 hb; replace HB := sh_b (w := w) hb; clear hb ho11))
   go_ret2
   exact ⟨_, ret_now, by (with_reducible repeat (first | apply Kd.R_alloc | apply Kd.R_drewN | apply Kd.R_drew)); exact HO345.out, b_now⟩

/-! ### stockaderef02_Encode: function 20 -/
def stockaderef02_Encode.j0 : Nat → Bool → Int → Int → Int → Int → Int → Option (List Int × Int)
 | 0, _, _, _, _, _, _ => none
 | k + 1, x13, x347000, x347001, x347002, x347003, x347004 => if x13 = true then (some (([] : List Int), 21)) else (if (wrap64 (x347003)) < 0 then (if (wrap64 (x347004)) < 0 then (some ((([x347000, (x347001 + ((16 * x347002) % 256)) % 256, (Int.tmod (wrap64 ((wrap64 (x347003)) + 65536)) 256) % 256, (wrap64 (Int.tdiv (wrap64 ((wrap64 (x347003)) + 65536)) 256)) % 256, (Int.tmod (wrap64 ((wrap64 (x347004)) + 4294967296)) 256) % 256, (Int.tmod (wrap64 (Int.tdiv (wrap64 ((wrap64 (x347004)) + 4294967296)) 256)) 256) % 256, (Int.tmod (wrap64 (Int.tdiv (wrap64 ((wrap64 (x347004)) + 4294967296)) 65536)) 256) % 256, (wrap64 (Int.tdiv (wrap64 ((wrap64 (x347004)) + 4294967296)) 16777216)) % 256] : List Int)), 0)) else (some ((([x347000, (x347001 + ((16 * x347002) % 256)) % 256, (Int.tmod (wrap64 ((wrap64 (x347003)) + 65536)) 256) % 256, (wrap64 (Int.tdiv (wrap64 ((wrap64 (x347003)) + 65536)) 256)) % 256, (Int.tmod (wrap64 (x347004)) 256) % 256, (Int.tmod (wrap64 (Int.tdiv (wrap64 (x347004)) 256)) 256) % 256, (Int.tmod (wrap64 (Int.tdiv (wrap64 (x347004)) 65536)) 256) % 256, (wrap64 (Int.tdiv (wrap64 (x347004)) 16777216)) % 256] : List Int)), 0))) else (if (wrap64 (x347004)) < 0 then (some ((([x347000, (x347001 + ((16 * x347002) % 256)) % 256, (Int.tmod (wrap64 (x347003)) 256) % 256, (wrap64 (Int.tdiv (wrap64 (x347003)) 256)) % 256, (Int.tmod (wrap64 ((wrap64 (x347004)) + 4294967296)) 256) % 256, (Int.tmod (wrap64 (Int.tdiv (wrap64 ((wrap64 (x347004)) + 4294967296)) 256)) 256) % 256, (Int.tmod (wrap64 (Int.tdiv (wrap64 ((wrap64 (x347004)) + 4294967296)) 65536)) 256) % 256, (wrap64 (Int.tdiv (wrap64 ((wrap64 (x347004)) + 4294967296)) 16777216)) % 256] : List Int)), 0)) else (some ((([x347000, (x347001 + ((16 * x347002) % 256)) % 256, (Int.tmod (wrap64 (x347003)) 256) % 256, (wrap64 (Int.tdiv (wrap64 (x347003)) 256)) % 256, (Int.tmod (wrap64 (x347004)) 256) % 256, (Int.tmod (wrap64 (Int.tdiv (wrap64 (x347004)) 256)) 256) % 256, (Int.tmod (wrap64 (Int.tdiv (wrap64 (x347004)) 65536)) 256) % 256, (wrap64 (Int.tdiv (wrap64 (x347004)) 16777216)) % 256] : List Int)), 0))))
def stockaderef02_Encode.f (k : Nat) (a0_0 : Int) (a0_1 : Int) (a0_2 : Int) (a0_3 : Int) (a0_4 : Int) : Option (List Int × Int) := if a0_1 > 15 then (stockaderef02_Encode.j0 k true a0_0 a0_1 a0_2 a0_3 a0_4) else (stockaderef02_Encode.j0 k (decide (a0_2 > 15)) a0_0 a0_1 a0_2 a0_3 a0_4)
theorem stockaderef02_Encode.mono_l : ∀ k, (∀ y0 y1 y2 y3 y4 y5, LeO (stockaderef02_Encode.j0 k y0 y1 y2 y3 y4 y5) (stockaderef02_Encode.j0 (k + 1) y0 y1 y2 y3 y4 y5))
 | 0 => fun _ _ _ _ _ _ r h => by simp [stockaderef02_Encode.j0] at h
 | k + 1 => by
  have ih0 := stockaderef02_Encode.mono_l k
  ·intro y0 y1 y2 y3 y4 y5
   unfold stockaderef02_Encode.j0
   repeat' first
   | (with_reducible exact ih0 _ _ _ _ _ _)
   | (with_reducible exact LeO.refl _)
   | (with_reducible exact LeO.none _)
   | (with_reducible refine LeO.ite ?_ ?_)
   | (with_reducible refine LeO.bind ?_ (fun _ => ?_))
   | exact ih0 _ _ _ _ _ _
   | exact LeO.none _
   | refine LeO.ite ?_ ?_
   | refine LeO.bind ?_ (fun _ => ?_)
theorem stockaderef02_Encode.mono : ∀ a0 a1 a2 a3 a4 k, LeO (stockaderef02_Encode.f k a0 a1 a2 a3 a4) (stockaderef02_Encode.f (k + 1) a0 a1 a2 a3 a4) := by
 intro a0 a1 a2 a3 a4 k
 have ih0 := stockaderef02_Encode.mono_l k
 unfold stockaderef02_Encode.f
 repeat' first
   | (with_reducible exact ih0 _ _ _ _ _ _)
   | (with_reducible exact LeO.refl _)
   | (with_reducible exact LeO.none _)
   | (with_reducible refine LeO.ite ?_ ?_)
   | (with_reducible refine LeO.bind ?_ (fun _ => ?_))
   | exact ih0 _ _ _ _ _ _
   | exact LeO.none _
   | refine LeO.ite ?_ ?_
   | refine LeO.bind ?_ (fun _ => ?_)
set_option maxHeartbeats 8000000 in
set_option maxRecDepth 100000 in
theorem stockaderef02_Encode.calls (k : Nat) (a0_0 : Int) (a0_1 : Int) (a0_2 : Int) (a0_3 : Int) (a0_4 : Int) (r1 : List Int) (r2 : Int) (w : World) (h : stockaderef02_Encode.f k a0_0 a0_1 a0_2 a0_3 a0_4 = some (r1, r2)) :
  Calls Tryd.prog 20 #[.agg #[.int .u8 a0_0, .int .u8 a0_1, .int .u8 a0_2, .int .i16 a0_3, .int .i32 a0_4]] w fun e w' => ∃ v0_ : Value, e = .returned (.tuple #[v0_, .int .i64 r2]) ∧ Kd.R (Kd.int .u8) 5 w' w.heap.size (fun _ => True) v0_ r1 ∧ Below w.heap.size w w' := by
 have hu24 := Tryd.underlying24
 have HB := Aside0.mk (Below.refl w.heap.size w)
 have H : (if a0_1 > 15 then (stockaderef02_Encode.j0 k true a0_0 a0_1 a0_2 a0_3 a0_4) else (stockaderef02_Encode.j0 k (decide (a0_2 > 15)) a0_0 a0_1 a0_2 a0_3 a0_4)) = some (r1, r2) := h
 clear h
 have HC2 := Aside0.mk H
 clear H
 go_enter Tryd.func20, Tryd.ntmps20
 go_upto_region 1 with (first | ((with_reducible refine gate_dst (N := 1) rfl ?_); refine sh_box 1 #[.int .u8 a0_0, .int .u8 a0_1, .int .u8 a0_2, .int .i16 a0_3, .int .i32 a0_4] 24 ?_; intro gb346 hg w3 hbox hb; have GE346 := sh_z (w := w) hg; replace HB := sh_b (w := w) hb; have BK346 := Aside0.mk (hbox); clear hb hbox hg))
 (try simp only [Act.put, List.setIfInBounds_toArray, List.set_cons_zero, List.set_cons_succ])
 go_cut [13] (fun v13 wc => ∃ (kq : Nat) (x13_1 : Bool), v13 = .bool x13_1 ∧ Aside0 (stockaderef02_Encode.j0 kq x13_1 a0_0 a0_1 a0_2 a0_3 a0_4 = some (r1, r2)) ∧ Aside0 (kq ≤ k) ∧ Aside0 (wc.heap[gb346]? = some (.cells #[.int .u8 a0_0, .int .u8 a0_1, .int .u8 a0_2, .int .i16 a0_3, .int .i32 a0_4] 24 (0, 0))) ∧ Aside0 (Below w.heap.size w wc))
 case first =>
  have H := HC2.out
  clear HC2
  by_cases c4 : a0_1 > 15
  ·rw [if_pos c4] at H
   have c4b0 : decide (15 < a0_1) = true := decide_eq_true c4
   clear c4
   (first | rw [c4b0] | (simp only [i64_w, i32_w]; rw [c4b0]) | skip)
   have H' := Aside0.mk H
   clear H
   have hcz5 := blk_all5 BK346.out
   go_wp2
   go_meet
   case rel => exact ⟨_, (true), eq_now, H', ⟨by first | omega | exact Nat.le_refl _⟩, ⟨bk_now⟩, ⟨b_now⟩⟩
  ·rw [if_neg c4] at H
   have c4b0 : decide (15 < a0_1) = false := decide_eq_false c4
   clear c4
   (first | rw [c4b0] | (simp only [i64_w, i32_w]; rw [c4b0]) | skip)
   have H' := Aside0.mk H
   clear H
   have hcz6 := blk_all5 BK346.out
   go_wp2
   go_meet
   case rel => exact ⟨_, (decide (a0_2 > 15)), eq_now, H', ⟨by first | omega | exact Nat.le_refl _⟩, ⟨bk_now⟩, ⟨b_now⟩⟩
 case rest =>
  clear HC2
  try clear c2
  try clear p2
  try clear c4
  try clear c4b0
  try clear hcz5
  try clear hcz6
  obtain ⟨kq, x13_1, rfl, HA, HJ1, BK346, HB⟩ := hcut
  cases kq with
  | zero => exact absurd HA.out (by simp [stockaderef02_Encode.j0])
  | succ kj1 =>
   have H := HA.out
   clear HA
   simp only [stockaderef02_Encode.j0] at H
   by_cases c7 : x13_1 = true
   ·subst c7
    replace H := sh_t H
    simp only [Option.some.injEq, Prod.mk.injEq] at H
    obtain ⟨rfl, rfl⟩ := H
    go_wp2
    go_ret2
    exact ⟨_, ret_now, by first | exact Kd.R_nil _ _ _ _ _ | exact Kd.N_nil _ _ _ _ _ | exact Kd.V_nil _ _ _ _ _ | exact Kd.Q_nil _ _ _ _ _ | exact Kd.S_nil _ _ _ _ _, b_now⟩
   ·replace c7 := Bool.eq_false_iff.mpr c7
    subst c7
    replace H := sh_f H
    by_cases c8 : (wrap64 (a0_3)) < 0
    ·rw [if_pos c8] at H
     have c8b0 : decide ((wrap64 (a0_3)) < 0) = true := decide_eq_true c8
     clear c8
     by_cases c9 : (wrap64 (a0_4)) < 0
     ·rw [if_pos c9] at H
      have c9b0 : decide ((wrap64 (a0_4)) < 0) = true := decide_eq_true c9
      clear c9
      obtain ⟨y347, hy347⟩ : ∃ y_ : List Int, y_ = (([a0_0, (a0_1 + ((16 * a0_2) % 256)) % 256, (Int.tmod (wrap64 ((wrap64 (a0_3)) + 65536)) 256) % 256, (wrap64 (Int.tdiv (wrap64 ((wrap64 (a0_3)) + 65536)) 256)) % 256, (Int.tmod (wrap64 ((wrap64 (a0_4)) + 4294967296)) 256) % 256, (Int.tmod (wrap64 (Int.tdiv (wrap64 ((wrap64 (a0_4)) + 4294967296)) 256)) 256) % 256, (Int.tmod (wrap64 (Int.tdiv (wrap64 ((wrap64 (a0_4)) + 4294967296)) 65536)) 256) % 256, (wrap64 (Int.tdiv (wrap64 ((wrap64 (a0_4)) + 4294967296)) 16777216)) % 256] : List Int)) := ⟨_, rfl⟩
      replace H : (some (y347, 0)) = some (r1, r2) := by first | (rw [hy347]; with_reducible exact H) | (have H2_ := (Option.bind_some _ _).symm.trans H; rw [hy347]; with_reducible exact H2_) | (have H2_ := (Option.bind_some _ _).symm.trans H; with_reducible exact H2_) | with_reducible exact H | (rw [hy347]; exact H) | exact H
      have Ny347 := Aside0.mk hy347
      clear hy347
      simp only [Option.some.injEq, Prod.mk.injEq] at H
      obtain ⟨rfl, rfl⟩ := H
      have hcz10 := blk_all5 BK346.out
      go_wp2_with (first | ((with_reducible refine gate_dst (N := 56) rfl ?_); refine Kd.R_lit (Kd.int .u8) _ 5 ?hg (N := 56) ?hd (xs := ([a0_0, (a0_1 + ((16 * a0_2) % 256)) % 256, (Int.tmod (wrap64 ((wrap64 (a0_3)) + 65536)) 256) % 256, (wrap64 (Int.tdiv (wrap64 ((wrap64 (a0_3)) + 65536)) 256)) % 256, (Int.tmod (wrap64 ((wrap64 (a0_4)) + 4294967296)) 256) % 256, (Int.tmod (wrap64 (Int.tdiv (wrap64 ((wrap64 (a0_4)) + 4294967296)) 256)) 256) % 256, (Int.tmod (wrap64 (Int.tdiv (wrap64 ((wrap64 (a0_4)) + 4294967296)) 65536)) 256) % 256, (wrap64 (Int.tdiv (wrap64 ((wrap64 (a0_4)) + 4294967296)) 16777216)) % 256] : List Int)) (inner := [.int .u8 a0_0, .int .u8 ((a0_1 + ((16 * a0_2) % 256)) % 256), .int .u8 ((Int.tmod (wrap64 ((wrap64 (a0_3)) + 65536)) 256) % 256), .int .u8 ((wrap64 (Int.tdiv (wrap64 ((wrap64 (a0_3)) + 65536)) 256)) % 256), .int .u8 ((Int.tmod (wrap64 ((wrap64 (a0_4)) + 4294967296)) 256) % 256), .int .u8 ((Int.tmod (wrap64 (Int.tdiv (wrap64 ((wrap64 (a0_4)) + 4294967296)) 256)) 256) % 256), .int .u8 ((Int.tmod (wrap64 (Int.tdiv (wrap64 ((wrap64 (a0_4)) + 4294967296)) 65536)) 256) % 256), .int .u8 ((wrap64 (Int.tdiv (wrap64 ((wrap64 (a0_4)) + 4294967296)) 16777216)) % 256)]) (ok := fun _ => True) (okp := fun _ => True) ?hr ?hp (fun _ hk => hk) trivial (Below.refl _ _) (Nat.le_refl _) (by simp) ?_; (case hd => rfl); (case hg => rfl); (case hr => first | (go_simp; done) | (go_simp; rfl)); (case hp => exact (Reps.one (show Kd.M (Kd.int .u8) _ _ _ a0_0 [.int .u8 a0_0] from rfl) (Reps.one (show Kd.M (Kd.int .u8) _ _ _ ((a0_1 + ((16 * a0_2) % 256)) % 256) [.int .u8 ((a0_1 + ((16 * a0_2) % 256)) % 256)] from rfl) (Reps.one (show Kd.M (Kd.int .u8) _ _ _ ((Int.tmod (wrap64 ((wrap64 (a0_3)) + 65536)) 256) % 256) [.int .u8 ((Int.tmod (wrap64 ((wrap64 (a0_3)) + 65536)) 256) % 256)] from rfl) (Reps.one (show Kd.M (Kd.int .u8) _ _ _ ((wrap64 (Int.tdiv (wrap64 ((wrap64 (a0_3)) + 65536)) 256)) % 256) [.int .u8 ((wrap64 (Int.tdiv (wrap64 ((wrap64 (a0_3)) + 65536)) 256)) % 256)] from rfl) (Reps.one (show Kd.M (Kd.int .u8) _ _ _ ((Int.tmod (wrap64 ((wrap64 (a0_4)) + 4294967296)) 256) % 256) [.int .u8 ((Int.tmod (wrap64 ((wrap64 (a0_4)) + 4294967296)) 256) % 256)] from rfl) (Reps.one (show Kd.M (Kd.int .u8) _ _ _ ((Int.tmod (wrap64 (Int.tdiv (wrap64 ((wrap64 (a0_4)) + 4294967296)) 256)) 256) % 256) [.int .u8 ((Int.tmod (wrap64 (Int.tdiv (wrap64 ((wrap64 (a0_4)) + 4294967296)) 256)) 256) % 256)] from rfl) (Reps.one (show Kd.M (Kd.int .u8) _ _ _ ((Int.tmod (wrap64 (Int.tdiv (wrap64 ((wrap64 (a0_4)) + 4294967296)) 65536)) 256) % 256) [.int .u8 ((Int.tmod (wrap64 (Int.tdiv (wrap64 ((wrap64 (a0_4)) + 4294967296)) 65536)) 256) % 256)] from rfl) (Reps.one (show Kd.M (Kd.int .u8) _ _ _ ((wrap64 (Int.tdiv (wrap64 ((wrap64 (a0_4)) + 4294967296)) 16777216)) % 256) [.int .u8 ((wrap64 (Int.tdiv (wrap64 ((wrap64 (a0_4)) + 4294967296)) 16777216)) % 256)] from rfl) (Reps.none _ _)))))))))); intro v348 w11 ho12 hb hg_ hnew_; clear hg_ hnew_; (first | rw [← Ny347.out] at ho12 | (simp only [Int.reduceToNat] at ho12; rw [← Ny347.out] at ho12)); have HO349 := Aside0.mk (Kd.R_lower ho12 (below_size b_now)); replace BK346 := sh_k BK346 hb; replace HB := sh_b (w := w) hb; clear hb ho12))
      go_ret2
      exact ⟨_, ret_now, by (with_reducible repeat (first | apply Kd.R_alloc | apply Kd.R_drewN | apply Kd.R_drew)); exact HO349.out, b_now⟩
     ·rw [if_neg c9] at H
      have c9b0 : decide ((wrap64 (a0_4)) < 0) = false := decide_eq_false c9
      clear c9
      obtain ⟨y350, hy350⟩ : ∃ y_ : List Int, y_ = (([a0_0, (a0_1 + ((16 * a0_2) % 256)) % 256, (Int.tmod (wrap64 ((wrap64 (a0_3)) + 65536)) 256) % 256, (wrap64 (Int.tdiv (wrap64 ((wrap64 (a0_3)) + 65536)) 256)) % 256, (Int.tmod (wrap64 (a0_4)) 256) % 256, (Int.tmod (wrap64 (Int.tdiv (wrap64 (a0_4)) 256)) 256) % 256, (Int.tmod (wrap64 (Int.tdiv (wrap64 (a0_4)) 65536)) 256) % 256, (wrap64 (Int.tdiv (wrap64 (a0_4)) 16777216)) % 256] : List Int)) := ⟨_, rfl⟩
      replace H : (some (y350, 0)) = some (r1, r2) := by first | (rw [hy350]; with_reducible exact H) | (have H2_ := (Option.bind_some _ _).symm.trans H; rw [hy350]; with_reducible exact H2_) | (have H2_ := (Option.bind_some _ _).symm.trans H; with_reducible exact H2_) | with_reducible exact H | (rw [hy350]; exact H) | exact H
      have Ny350 := Aside0.mk hy350
      clear hy350
      simp only [Option.some.injEq, Prod.mk.injEq] at H
      obtain ⟨rfl, rfl⟩ := H
      have hcz13 := blk_all5 BK346.out
      go_wp2_with (first | ((with_reducible refine gate_dst (N := 56) rfl ?_); refine Kd.R_lit (Kd.int .u8) _ 5 ?hg (N := 56) ?hd (xs := ([a0_0, (a0_1 + ((16 * a0_2) % 256)) % 256, (Int.tmod (wrap64 ((wrap64 (a0_3)) + 65536)) 256) % 256, (wrap64 (Int.tdiv (wrap64 ((wrap64 (a0_3)) + 65536)) 256)) % 256, (Int.tmod (wrap64 (a0_4)) 256) % 256, (Int.tmod (wrap64 (Int.tdiv (wrap64 (a0_4)) 256)) 256) % 256, (Int.tmod (wrap64 (Int.tdiv (wrap64 (a0_4)) 65536)) 256) % 256, (wrap64 (Int.tdiv (wrap64 (a0_4)) 16777216)) % 256] : List Int)) (inner := [.int .u8 a0_0, .int .u8 ((a0_1 + ((16 * a0_2) % 256)) % 256), .int .u8 ((Int.tmod (wrap64 ((wrap64 (a0_3)) + 65536)) 256) % 256), .int .u8 ((wrap64 (Int.tdiv (wrap64 ((wrap64 (a0_3)) + 65536)) 256)) % 256), .int .u8 ((Int.tmod (wrap64 (a0_4)) 256) % 256), .int .u8 ((Int.tmod (wrap64 (Int.tdiv (wrap64 (a0_4)) 256)) 256) % 256), .int .u8 ((Int.tmod (wrap64 (Int.tdiv (wrap64 (a0_4)) 65536)) 256) % 256), .int .u8 ((wrap64 (Int.tdiv (wrap64 (a0_4)) 16777216)) % 256)]) (ok := fun _ => True) (okp := fun _ => True) ?hr ?hp (fun _ hk => hk) trivial (Below.refl _ _) (Nat.le_refl _) (by simp) ?_; (case hd => rfl); (case hg => rfl); (case hr => first | (go_simp; done) | (go_simp; rfl)); (case hp => exact (Reps.one (show Kd.M (Kd.int .u8) _ _ _ a0_0 [.int .u8 a0_0] from rfl) (Reps.one (show Kd.M (Kd.int .u8) _ _ _ ((a0_1 + ((16 * a0_2) % 256)) % 256) [.int .u8 ((a0_1 + ((16 * a0_2) % 256)) % 256)] from rfl) (Reps.one (show Kd.M (Kd.int .u8) _ _ _ ((Int.tmod (wrap64 ((wrap64 (a0_3)) + 65536)) 256) % 256) [.int .u8 ((Int.tmod (wrap64 ((wrap64 (a0_3)) + 65536)) 256) % 256)] from rfl) (Reps.one (show Kd.M (Kd.int .u8) _ _ _ ((wrap64 (Int.tdiv (wrap64 ((wrap64 (a0_3)) + 65536)) 256)) % 256) [.int .u8 ((wrap64 (Int.tdiv (wrap64 ((wrap64 (a0_3)) + 65536)) 256)) % 256)] from rfl) (Reps.one (show Kd.M (Kd.int .u8) _ _ _ ((Int.tmod (wrap64 (a0_4)) 256) % 256) [.int .u8 ((Int.tmod (wrap64 (a0_4)) 256) % 256)] from rfl) (Reps.one (show Kd.M (Kd.int .u8) _ _ _ ((Int.tmod (wrap64 (Int.tdiv (wrap64 (a0_4)) 256)) 256) % 256) [.int .u8 ((Int.tmod (wrap64 (Int.tdiv (wrap64 (a0_4)) 256)) 256) % 256)] from rfl) (Reps.one (show Kd.M (Kd.int .u8) _ _ _ ((Int.tmod (wrap64 (Int.tdiv (wrap64 (a0_4)) 65536)) 256) % 256) [.int .u8 ((Int.tmod (wrap64 (Int.tdiv (wrap64 (a0_4)) 65536)) 256) % 256)] from rfl) (Reps.one (show Kd.M (Kd.int .u8) _ _ _ ((wrap64 (Int.tdiv (wrap64 (a0_4)) 16777216)) % 256) [.int .u8 ((wrap64 (Int.tdiv (wrap64 (a0_4)) 16777216)) % 256)] from rfl) (Reps.none _ _)))))))))); intro v351 w14 ho15 hb hg_ hnew_; clear hg_ hnew_; (first | rw [← Ny350.out] at ho15 | (simp only [Int.reduceToNat] at ho15; rw [← Ny350.out] at ho15)); have HO352 := Aside0.mk (Kd.R_lower ho15 (below_size b_now)); replace BK346 := sh_k BK346 hb; replace HB := sh_b (w := w) hb; clear hb ho15))
      go_ret2
      exact ⟨_, ret_now, by (with_reducible repeat (first | apply Kd.R_alloc | apply Kd.R_drewN | apply Kd.R_drew)); exact HO352.out, b_now⟩
    ·rw [if_neg c8] at H
     have c8b0 : decide ((wrap64 (a0_3)) < 0) = false := decide_eq_false c8
     clear c8
     by_cases c16 : (wrap64 (a0_4)) < 0
     ·rw [if_pos c16] at H
      have c16b0 : decide ((wrap64 (a0_4)) < 0) = true := decide_eq_true c16
      clear c16
      obtain ⟨y353, hy353⟩ : ∃ y_ : List Int, y_ = (([a0_0, (a0_1 + ((16 * a0_2) % 256)) % 256, (Int.tmod (wrap64 (a0_3)) 256) % 256, (wrap64 (Int.tdiv (wrap64 (a0_3)) 256)) % 256, (Int.tmod (wrap64 ((wrap64 (a0_4)) + 4294967296)) 256) % 256, (Int.tmod (wrap64 (Int.tdiv (wrap64 ((wrap64 (a0_4)) + 4294967296)) 256)) 256) % 256, (Int.tmod (wrap64 (Int.tdiv (wrap64 ((wrap64 (a0_4)) + 4294967296)) 65536)) 256) % 256, (wrap64 (Int.tdiv (wrap64 ((wrap64 (a0_4)) + 4294967296)) 16777216)) % 256] : List Int)) := ⟨_, rfl⟩
      replace H : (some (y353, 0)) = some (r1, r2) := by first | (rw [hy353]; with_reducible exact H) | (have H2_ := (Option.bind_some _ _).symm.trans H; rw [hy353]; with_reducible exact H2_) | (have H2_ := (Option.bind_some _ _).symm.trans H; with_reducible exact H2_) | with_reducible exact H | (rw [hy353]; exact H) | exact H
      have Ny353 := Aside0.mk hy353
      clear hy353
      simp only [Option.some.injEq, Prod.mk.injEq] at H
      obtain ⟨rfl, rfl⟩ := H
      have hcz17 := blk_all5 BK346.out
      go_wp2_with (first | ((with_reducible refine gate_dst (N := 56) rfl ?_); refine Kd.R_lit (Kd.int .u8) _ 5 ?hg (N := 56) ?hd (xs := ([a0_0, (a0_1 + ((16 * a0_2) % 256)) % 256, (Int.tmod (wrap64 (a0_3)) 256) % 256, (wrap64 (Int.tdiv (wrap64 (a0_3)) 256)) % 256, (Int.tmod (wrap64 ((wrap64 (a0_4)) + 4294967296)) 256) % 256, (Int.tmod (wrap64 (Int.tdiv (wrap64 ((wrap64 (a0_4)) + 4294967296)) 256)) 256) % 256, (Int.tmod (wrap64 (Int.tdiv (wrap64 ((wrap64 (a0_4)) + 4294967296)) 65536)) 256) % 256, (wrap64 (Int.tdiv (wrap64 ((wrap64 (a0_4)) + 4294967296)) 16777216)) % 256] : List Int)) (inner := [.int .u8 a0_0, .int .u8 ((a0_1 + ((16 * a0_2) % 256)) % 256), .int .u8 ((Int.tmod (wrap64 (a0_3)) 256) % 256), .int .u8 ((wrap64 (Int.tdiv (wrap64 (a0_3)) 256)) % 256), .int .u8 ((Int.tmod (wrap64 ((wrap64 (a0_4)) + 4294967296)) 256) % 256), .int .u8 ((Int.tmod (wrap64 (Int.tdiv (wrap64 ((wrap64 (a0_4)) + 4294967296)) 256)) 256) % 256), .int .u8 ((Int.tmod (wrap64 (Int.tdiv (wrap64 ((wrap64 (a0_4)) + 4294967296)) 65536)) 256) % 256), .int .u8 ((wrap64 (Int.tdiv (wrap64 ((wrap64 (a0_4)) + 4294967296)) 16777216)) % 256)]) (ok := fun _ => True) (okp := fun _ => True) ?hr ?hp (fun _ hk => hk) trivial (Below.refl _ _) (Nat.le_refl _) (by simp) ?_; (case hd => rfl); (case hg => rfl); (case hr => first | (go_simp; done) | (go_simp; rfl)); (case hp => exact (Reps.one (show Kd.M (Kd.int .u8) _ _ _ a0_0 [.int .u8 a0_0] from rfl) (Reps.one (show Kd.M (Kd.int .u8) _ _ _ ((a0_1 + ((16 * a0_2) % 256)) % 256) [.int .u8 ((a0_1 + ((16 * a0_2) % 256)) % 256)] from rfl) (Reps.one (show Kd.M (Kd.int .u8) _ _ _ ((Int.tmod (wrap64 (a0_3)) 256) % 256) [.int .u8 ((Int.tmod (wrap64 (a0_3)) 256) % 256)] from rfl) (Reps.one (show Kd.M (Kd.int .u8) _ _ _ ((wrap64 (Int.tdiv (wrap64 (a0_3)) 256)) % 256) [.int .u8 ((wrap64 (Int.tdiv (wrap64 (a0_3)) 256)) % 256)] from rfl) (Reps.one (show Kd.M (Kd.int .u8) _ _ _ ((Int.tmod (wrap64 ((wrap64 (a0_4)) + 4294967296)) 256) % 256) [.int .u8 ((Int.tmod (wrap64 ((wrap64 (a0_4)) + 4294967296)) 256) % 256)] from rfl) (Reps.one (show Kd.M (Kd.int .u8) _ _ _ ((Int.tmod (wrap64 (Int.tdiv (wrap64 ((wrap64 (a0_4)) + 4294967296)) 256)) 256) % 256) [.int .u8 ((Int.tmod (wrap64 (Int.tdiv (wrap64 ((wrap64 (a0_4)) + 4294967296)) 256)) 256) % 256)] from rfl) (Reps.one (show Kd.M (Kd.int .u8) _ _ _ ((Int.tmod (wrap64 (Int.tdiv (wrap64 ((wrap64 (a0_4)) + 4294967296)) 65536)) 256) % 256) [.int .u8 ((Int.tmod (wrap64 (Int.tdiv (wrap64 ((wrap64 (a0_4)) + 4294967296)) 65536)) 256) % 256)] from rfl) (Reps.one (show Kd.M (Kd.int .u8) _ _ _ ((wrap64 (Int.tdiv (wrap64 ((wrap64 (a0_4)) + 4294967296)) 16777216)) % 256) [.int .u8 ((wrap64 (Int.tdiv (wrap64 ((wrap64 (a0_4)) + 4294967296)) 16777216)) % 256)] from rfl) (Reps.none _ _)))))))))); intro v354 w18 ho19 hb hg_ hnew_; clear hg_ hnew_; (first | rw [← Ny353.out] at ho19 | (simp only [Int.reduceToNat] at ho19; rw [← Ny353.out] at ho19)); have HO355 := Aside0.mk (Kd.R_lower ho19 (below_size b_now)); replace BK346 := sh_k BK346 hb; replace HB := sh_b (w := w) hb; clear hb ho19))
      go_ret2
      exact ⟨_, ret_now, by (with_reducible repeat (first | apply Kd.R_alloc | apply Kd.R_drewN | apply Kd.R_drew)); exact HO355.out, b_now⟩
     ·rw [if_neg c16] at H
      have c16b0 : decide ((wrap64 (a0_4)) < 0) = false := decide_eq_false c16
      clear c16
      obtain ⟨y356, hy356⟩ : ∃ y_ : List Int, y_ = (([a0_0, (a0_1 + ((16 * a0_2) % 256)) % 256, (Int.tmod (wrap64 (a0_3)) 256) % 256, (wrap64 (Int.tdiv (wrap64 (a0_3)) 256)) % 256, (Int.tmod (wrap64 (a0_4)) 256) % 256, (Int.tmod (wrap64 (Int.tdiv (wrap64 (a0_4)) 256)) 256) % 256, (Int.tmod (wrap64 (Int.tdiv (wrap64 (a0_4)) 65536)) 256) % 256, (wrap64 (Int.tdiv (wrap64 (a0_4)) 16777216)) % 256] : List Int)) := ⟨_, rfl⟩
      replace H : (some (y356, 0)) = some (r1, r2) := by first | (rw [hy356]; with_reducible exact H) | (have H2_ := (Option.bind_some _ _).symm.trans H; rw [hy356]; with_reducible exact H2_) | (have H2_ := (Option.bind_some _ _).symm.trans H; with_reducible exact H2_) | with_reducible exact H | (rw [hy356]; exact H) | exact H
      have Ny356 := Aside0.mk hy356
      clear hy356
      simp only [Option.some.injEq, Prod.mk.injEq] at H
      obtain ⟨rfl, rfl⟩ := H
      have hcz20 := blk_all5 BK346.out
      go_wp2_with (first | ((with_reducible refine gate_dst (N := 56) rfl ?_); refine Kd.R_lit (Kd.int .u8) _ 5 ?hg (N := 56) ?hd (xs := ([a0_0, (a0_1 + ((16 * a0_2) % 256)) % 256, (Int.tmod (wrap64 (a0_3)) 256) % 256, (wrap64 (Int.tdiv (wrap64 (a0_3)) 256)) % 256, (Int.tmod (wrap64 (a0_4)) 256) % 256, (Int.tmod (wrap64 (Int.tdiv (wrap64 (a0_4)) 256)) 256) % 256, (Int.tmod (wrap64 (Int.tdiv (wrap64 (a0_4)) 65536)) 256) % 256, (wrap64 (Int.tdiv (wrap64 (a0_4)) 16777216)) % 256] : List Int)) (inner := [.int .u8 a0_0, .int .u8 ((a0_1 + ((16 * a0_2) % 256)) % 256), .int .u8 ((Int.tmod (wrap64 (a0_3)) 256) % 256), .int .u8 ((wrap64 (Int.tdiv (wrap64 (a0_3)) 256)) % 256), .int .u8 ((Int.tmod (wrap64 (a0_4)) 256) % 256), .int .u8 ((Int.tmod (wrap64 (Int.tdiv (wrap64 (a0_4)) 256)) 256) % 256), .int .u8 ((Int.tmod (wrap64 (Int.tdiv (wrap64 (a0_4)) 65536)) 256) % 256), .int .u8 ((wrap64 (Int.tdiv (wrap64 (a0_4)) 16777216)) % 256)]) (ok := fun _ => True) (okp := fun _ => True) ?hr ?hp (fun _ hk => hk) trivial (Below.refl _ _) (Nat.le_refl _) (by simp) ?_; (case hd => rfl); (case hg => rfl); (case hr => first | (go_simp; done) | (go_simp; rfl)); (case hp => exact (Reps.one (show Kd.M (Kd.int .u8) _ _ _ a0_0 [.int .u8 a0_0] from rfl) (Reps.one (show Kd.M (Kd.int .u8) _ _ _ ((a0_1 + ((16 * a0_2) % 256)) % 256) [.int .u8 ((a0_1 + ((16 * a0_2) % 256)) % 256)] from rfl) (Reps.one (show Kd.M (Kd.int .u8) _ _ _ ((Int.tmod (wrap64 (a0_3)) 256) % 256) [.int .u8 ((Int.tmod (wrap64 (a0_3)) 256) % 256)] from rfl) (Reps.one (show Kd.M (Kd.int .u8) _ _ _ ((wrap64 (Int.tdiv (wrap64 (a0_3)) 256)) % 256) [.int .u8 ((wrap64 (Int.tdiv (wrap64 (a0_3)) 256)) % 256)] from rfl) (Reps.one (show Kd.M (Kd.int .u8) _ _ _ ((Int.tmod (wrap64 (a0_4)) 256) % 256) [.int .u8 ((Int.tmod (wrap64 (a0_4)) 256) % 256)] from rfl) (Reps.one (show Kd.M (Kd.int .u8) _ _ _ ((Int.tmod (wrap64 (Int.tdiv (wrap64 (a0_4)) 256)) 256) % 256) [.int .u8 ((Int.tmod (wrap64 (Int.tdiv (wrap64 (a0_4)) 256)) 256) % 256)] from rfl) (Reps.one (show Kd.M (Kd.int .u8) _ _ _ ((Int.tmod (wrap64 (Int.tdiv (wrap64 (a0_4)) 65536)) 256) % 256) [.int .u8 ((Int.tmod (wrap64 (Int.tdiv (wrap64 (a0_4)) 65536)) 256) % 256)] from rfl) (Reps.one (show Kd.M (Kd.int .u8) _ _ _ ((wrap64 (Int.tdiv (wrap64 (a0_4)) 16777216)) % 256) [.int .u8 ((wrap64 (Int.tdiv (wrap64 (a0_4)) 16777216)) % 256)] from rfl) (Reps.none _ _)))))))))); intro v357 w21 ho22 hb hg_ hnew_; clear hg_ hnew_; (first | rw [← Ny356.out] at ho22 | (simp only [Int.reduceToNat] at ho22; rw [← Ny356.out] at ho22)); have HO358 := Aside0.mk (Kd.R_lower ho22 (below_size b_now)); replace BK346 := sh_k BK346 hb; replace HB := sh_b (w := w) hb; clear hb ho22))
      go_ret2
      exact ⟨_, ret_now, by (with_reducible repeat (first | apply Kd.R_alloc | apply Kd.R_drewN | apply Kd.R_drew)); exact HO358.out, b_now⟩

/-! ### stockadelaw02_InsnBytes: function 5 -/
mutual
def stockadelaw02_InsnBytes.l0 : Nat → Int → Int → Int → Int → Int → Int → Option (Bool)
 | 0, _, _, _, _, _, _ => none
 | k + 1, x3, x360000, x360001, x360002, x360003, x360004 => if x3 < 2 then ((insn_Encode.f x360000 x360001 x360002 x360003 x360004).bind fun bt361 => ((stockaderef02_Encode.f k x360000 x360001 x360002 x360003 x360004).bind fun bt365 => (if bt361.2 = bt365.2 then ((stockadelaw02_same.f k bt361.1 bt365.1).bind fun t369 => (stockadelaw02_InsnBytes.j1 k x3 bt361.1 (!t369) x360000 x360001 x360002 x360003 x360004)) else (stockadelaw02_InsnBytes.j1 k x3 bt361.1 true x360000 x360001 x360002 x360003 x360004)))) else ((stockadelaw02_wakes.f k).bind fun t360 => (some t360))
def stockadelaw02_InsnBytes.j1 : Nat → Int → List Int → Bool → Int → Int → Int → Int → Int → Option (Bool)
 | 0, _, _, _, _, _, _, _, _ => none
 | k + 1, x3, x4, x31, x360000, x360001, x360002, x360003, x360004 => if x31 = true then (some false) else (stockadelaw02_InsnBytes.l1 k x3 x4 0 x360000 x360001 x360002 x360003 x360004)
def stockadelaw02_InsnBytes.l1 : Nat → Int → List Int → Int → Int → Int → Int → Int → Int → Option (Bool)
 | 0, _, _, _, _, _, _, _, _ => none
 | k + 1, x3, x4, x8, x360000, x360001, x360002, x360003, x360004 => if x8 < (x4.length : Int) then (if 0 ≤ x8 then (stockadelaw02_InsnBytes.l1 k x3 (x4.set (x8 : Int).toNat 90) (wrap64 (x8 + 1)) x360000 x360001 x360002 x360003 x360004) else (none)) else (stockadelaw02_InsnBytes.l0 k (wrap64 (x3 + 1)) x360000 x360001 x360002 x360003 x360004)
end
def stockadelaw02_InsnBytes.f (k : Nat) (a0_0 : Int) (a0_1 : Int) (a0_2 : Int) (a0_3 : Int) (a0_4 : Int) : Option (Bool) := stockadelaw02_InsnBytes.l0 k 0 a0_0 a0_1 a0_2 a0_3 a0_4
theorem stockadelaw02_InsnBytes.mono_l : ∀ k, (∀ y0 y1 y2 y3 y4 y5, LeO (stockadelaw02_InsnBytes.l0 k y0 y1 y2 y3 y4 y5) (stockadelaw02_InsnBytes.l0 (k + 1) y0 y1 y2 y3 y4 y5)) ∧ (∀ y0 y1 y2 y3 y4 y5 y6 y7, LeO (stockadelaw02_InsnBytes.j1 k y0 y1 y2 y3 y4 y5 y6 y7) (stockadelaw02_InsnBytes.j1 (k + 1) y0 y1 y2 y3 y4 y5 y6 y7)) ∧ (∀ y0 y1 y2 y3 y4 y5 y6 y7, LeO (stockadelaw02_InsnBytes.l1 k y0 y1 y2 y3 y4 y5 y6 y7) (stockadelaw02_InsnBytes.l1 (k + 1) y0 y1 y2 y3 y4 y5 y6 y7))
 | 0 => ⟨fun _ _ _ _ _ _ r h => by simp [stockadelaw02_InsnBytes.l0] at h, fun _ _ _ _ _ _ _ _ r h => by simp [stockadelaw02_InsnBytes.j1] at h, fun _ _ _ _ _ _ _ _ r h => by simp [stockadelaw02_InsnBytes.l1] at h⟩
 | k + 1 => by
  obtain ⟨ih0, ih1, ih2⟩ := stockadelaw02_InsnBytes.mono_l k
  refine ⟨?_, ?_, ?_⟩
  ·intro y0 y1 y2 y3 y4 y5
   unfold stockadelaw02_InsnBytes.l0
   repeat' first
   | (with_reducible exact ih0 _ _ _ _ _ _)
   | (with_reducible exact ih1 _ _ _ _ _ _ _ _)
   | (with_reducible exact ih2 _ _ _ _ _ _ _ _)
   | (with_reducible exact stockadelaw02_same.mono _ _ _)
   | (with_reducible exact stockadelaw02_wakes.mono _)
   | (with_reducible exact stockaderef02_Encode.mono _ _ _ _ _ _)
   | (with_reducible exact LeO.refl _)
   | (with_reducible exact LeO.none _)
   | (with_reducible refine LeO.ite ?_ ?_)
   | (with_reducible refine LeO.bind ?_ (fun _ => ?_))
   | exact ih0 _ _ _ _ _ _
   | exact ih1 _ _ _ _ _ _ _ _
   | exact ih2 _ _ _ _ _ _ _ _
   | exact stockadelaw02_same.mono _ _ _
   | exact stockadelaw02_wakes.mono _
   | exact stockaderef02_Encode.mono _ _ _ _ _ _
   | exact LeO.none _
   | refine LeO.ite ?_ ?_
   | refine LeO.bind ?_ (fun _ => ?_)
  ·intro y0 y1 y2 y3 y4 y5 y6 y7
   unfold stockadelaw02_InsnBytes.j1
   repeat' first
   | (with_reducible exact ih0 _ _ _ _ _ _)
   | (with_reducible exact ih1 _ _ _ _ _ _ _ _)
   | (with_reducible exact ih2 _ _ _ _ _ _ _ _)
   | (with_reducible exact stockadelaw02_same.mono _ _ _)
   | (with_reducible exact stockadelaw02_wakes.mono _)
   | (with_reducible exact stockaderef02_Encode.mono _ _ _ _ _ _)
   | (with_reducible exact LeO.refl _)
   | (with_reducible exact LeO.none _)
   | (with_reducible refine LeO.ite ?_ ?_)
   | (with_reducible refine LeO.bind ?_ (fun _ => ?_))
   | exact ih0 _ _ _ _ _ _
   | exact ih1 _ _ _ _ _ _ _ _
   | exact ih2 _ _ _ _ _ _ _ _
   | exact stockadelaw02_same.mono _ _ _
   | exact stockadelaw02_wakes.mono _
   | exact stockaderef02_Encode.mono _ _ _ _ _ _
   | exact LeO.none _
   | refine LeO.ite ?_ ?_
   | refine LeO.bind ?_ (fun _ => ?_)
  ·intro y0 y1 y2 y3 y4 y5 y6 y7
   unfold stockadelaw02_InsnBytes.l1
   repeat' first
   | (with_reducible exact ih0 _ _ _ _ _ _)
   | (with_reducible exact ih1 _ _ _ _ _ _ _ _)
   | (with_reducible exact ih2 _ _ _ _ _ _ _ _)
   | (with_reducible exact stockadelaw02_same.mono _ _ _)
   | (with_reducible exact stockadelaw02_wakes.mono _)
   | (with_reducible exact stockaderef02_Encode.mono _ _ _ _ _ _)
   | (with_reducible exact LeO.refl _)
   | (with_reducible exact LeO.none _)
   | (with_reducible refine LeO.ite ?_ ?_)
   | (with_reducible refine LeO.bind ?_ (fun _ => ?_))
   | exact ih0 _ _ _ _ _ _
   | exact ih1 _ _ _ _ _ _ _ _
   | exact ih2 _ _ _ _ _ _ _ _
   | exact stockadelaw02_same.mono _ _ _
   | exact stockadelaw02_wakes.mono _
   | exact stockaderef02_Encode.mono _ _ _ _ _ _
   | exact LeO.none _
   | refine LeO.ite ?_ ?_
   | refine LeO.bind ?_ (fun _ => ?_)
theorem stockadelaw02_InsnBytes.mono : ∀ a0 a1 a2 a3 a4 k, LeO (stockadelaw02_InsnBytes.f k a0 a1 a2 a3 a4) (stockadelaw02_InsnBytes.f (k + 1) a0 a1 a2 a3 a4) := by
 intro a0 a1 a2 a3 a4 k
 obtain ⟨ih0, ih1, ih2⟩ := stockadelaw02_InsnBytes.mono_l k
 unfold stockadelaw02_InsnBytes.f
 repeat' first
   | (with_reducible exact ih0 _ _ _ _ _ _)
   | (with_reducible exact ih1 _ _ _ _ _ _ _ _)
   | (with_reducible exact ih2 _ _ _ _ _ _ _ _)
   | (with_reducible exact stockadelaw02_same.mono _ _ _)
   | (with_reducible exact stockadelaw02_wakes.mono _)
   | (with_reducible exact stockaderef02_Encode.mono _ _ _ _ _ _)
   | (with_reducible exact LeO.refl _)
   | (with_reducible exact LeO.none _)
   | (with_reducible refine LeO.ite ?_ ?_)
   | (with_reducible refine LeO.bind ?_ (fun _ => ?_))
   | exact ih0 _ _ _ _ _ _
   | exact ih1 _ _ _ _ _ _ _ _
   | exact ih2 _ _ _ _ _ _ _ _
   | exact stockadelaw02_same.mono _ _ _
   | exact stockadelaw02_wakes.mono _
   | exact stockaderef02_Encode.mono _ _ _ _ _ _
   | exact LeO.none _
   | refine LeO.ite ?_ ?_
   | refine LeO.bind ?_ (fun _ => ?_)
set_option maxHeartbeats 8000000 in
set_option maxRecDepth 100000 in
theorem stockadelaw02_InsnBytes.calls (k : Nat) (a0_0 : Int) (a0_1 : Int) (a0_2 : Int) (a0_3 : Int) (a0_4 : Int) (r : Bool) (w : World) (hrG0 : Kd.C (Kd.int .i64) w (some ⟨0, 0, none⟩) gl0.length gl0) (hr_ : r = true) (h : stockadelaw02_InsnBytes.f k a0_0 a0_1 a0_2 a0_3 a0_4 = some r) :
  Calls Tryd.prog 5 #[.agg #[.int .u8 a0_0, .int .u8 a0_1, .int .u8 a0_2, .int .i16 a0_3, .int .i32 a0_4]] w fun e w' => e = .returned (.bool r) ∧ Below w.heap.size w w' := by
 have hu24 := Tryd.underlying24
 have HRG0 := Aside0.mk hrG0
 clear hrG0
 have HRT := Aside0.mk hr_
 clear hr_
 have HB := Aside0.mk (Below.refl w.heap.size w)
 have H : (stockadelaw02_InsnBytes.l0 k 0 a0_0 a0_1 a0_2 a0_3 a0_4) = some r := h
 clear h
 have H' := Aside0.mk H
 clear H
 go_enter Tryd.func5, Tryd.ntmps5
 go_wp2_with (first | ((with_reducible refine gate_dst (N := 1) rfl ?_); refine sh_box 1 #[.int .u8 a0_0, .int .u8 a0_1, .int .u8 a0_2, .int .i16 a0_3, .int .i32 a0_4] 24 ?_; intro gb359 hg w2 hbox hb; have GE359 := sh_z (w := w) hg; replace HB := sh_b (w := w) hb; have BK359 := Aside0.mk (hbox); clear hb hbox hg))
 go_loopg [3] k (fun kq v3 w' => ∃ (x3_1 : Int), v3 = .int .i64 x3_1 ∧ Aside0 (stockadelaw02_InsnBytes.l0 kq x3_1 a0_0 a0_1 a0_2 a0_3 a0_4 = some r) ∧ Aside0 (kq ≤ k) ∧ Aside0 (w'.heap[gb359]? = some (.cells #[.int .u8 a0_0, .int .u8 a0_1, .int .u8 a0_2, .int .i16 a0_3, .int .i32 a0_4] 24 (0, 0))) ∧ Aside0 (Below w.heap.size w w'))
 case atStart => exact ⟨(0), eq_now, H', ⟨Nat.le_refl _⟩, ⟨bk_now⟩, ⟨b_now⟩⟩
 case round =>
  clear H'
  try clear p2
  obtain ⟨x3_1, rfl, HA, HK1, BK359, HB⟩ := hrel
  cases gk with
  | zero => exact absurd HA.out (by simp [stockadelaw02_InsnBytes.l0])
  | succ k1 =>
   have H := HA.out
   clear HA
   simp only [stockadelaw02_InsnBytes.l0] at H
   by_cases c3 : x3_1 < 2
   ·rw [if_pos c3] at H
    have c3b0 : decide (x3_1 < 2) = true := decide_eq_true c3
    clear c3
    replace H := Option.bind_eq_some_iff.mp H; obtain ⟨⟨t361, t364⟩, A40, H⟩ := H; try dsimp only at H
    have A4 := Aside0.mk A40
    clear A40
    replace H := Option.bind_eq_some_iff.mp H; obtain ⟨⟨t365, t368⟩, A50, H⟩ := H; try dsimp only at H
    have A5 := Aside0.mk A50
    clear A50
    have HC6 := Aside0.mk H
    clear H
    have hcz7 := blk_all5 BK359.out
    go_upto_region 6 with (first | ((with_reducible refine gate_callee (f := 19) rfl ?_); refine sh_call (some 15) Tryd.func19 #[.agg #[.int .u8 a0_0, .int .u8 a0_1, .int .u8 a0_2, .int .i16 a0_3, .int .i32 a0_4]] ?_; (with_reducible refine (insn_Encode.calls a0_0 a0_1 a0_2 a0_3 a0_4 t361 t364 _ A4.out).mono ?_); rintro e w8 ⟨v362, rfl, ho0, hb⟩; refine ⟨_, rfl, ?_⟩; have HO363 := Aside0.mk (Kd.R_lower ho0 (below_size b_now)); replace BK359 := sh_k BK359 hb; replace HB := sh_b (w := w) hb; (try clear hb); (try clear hb2); (try clear hk); (try clear hi); (try clear ho0); have hcz9 := blk_all5 BK359.out) | ((with_reducible refine gate_callee (f := 20) rfl ?_); refine sh_call (some 20) Tryd.func20 #[.agg #[.int .u8 a0_0, .int .u8 a0_1, .int .u8 a0_2, .int .i16 a0_3, .int .i32 a0_4]] ?_; (with_reducible refine (stockaderef02_Encode.calls k1 a0_0 a0_1 a0_2 a0_3 a0_4 t365 t368 _ A5.out).mono ?_); rintro e w10 ⟨v366, rfl, ho0, hb⟩; refine ⟨_, rfl, ?_⟩; have HO367 := Aside0.mk (Kd.R_lower (Kd.R_new' ho0 (Kd.R_lt (by (with_reducible repeat (first | apply Kd.R_alloc | apply Kd.R_drewN | apply Kd.R_drew)); exact HO363.out))) (below_size b_now)); replace HO363 := Aside0.mk (Kd.R_elder' (by (with_reducible repeat (first | apply Kd.R_alloc | apply Kd.R_drewN | apply Kd.R_drew)); exact HO363.out) (Kd.R_base ho0) hb); replace BK359 := sh_k BK359 hb; replace HB := sh_b (w := w) hb; (try clear hb); (try clear hb2); (try clear hk); (try clear hi); (try clear ho0)))
    (try simp only [Act.put, List.setIfInBounds_toArray, List.set_cons_zero, List.set_cons_succ])
    go_cut [31] (fun v31 wc => ∃ (kq : Nat) (x31_5 : Bool), v31 = .bool x31_5 ∧ Aside0 (stockadelaw02_InsnBytes.j1 kq x3_1 t361 x31_5 a0_0 a0_1 a0_2 a0_3 a0_4 = some r) ∧ Aside0 (kq ≤ k1) ∧ Aside0 (Kd.R (Kd.int .u8) 5 wc w.heap.size (fun _ => True) v362 t361) ∧ Aside0 (wc.heap[gb359]? = some (.cells #[.int .u8 a0_0, .int .u8 a0_1, .int .u8 a0_2, .int .i16 a0_3, .int .i32 a0_4] 24 (0, 0))) ∧ Aside0 (Below w.heap.size w wc))
    case first =>
     have H := HC6.out
     clear HC6
     by_cases c11 : t364 = t368
     ·rw [if_pos c11] at H
      have c11b0 : (t364 == t368) = true := beq_iff_eq.mpr c11
      have c11b1 : (t364 != t368) = false := bne_eq_false_iff_eq.mpr c11
      clear c11
      (first | rw [c11b0] | (simp only [i64_w, i32_w]; rw [c11b0]) | skip)
      replace H := Option.bind_eq_some_iff.mp H; obtain ⟨t369, A120, H⟩ := H; try dsimp only at H
      have A12 := Aside0.mk A120
      clear A120
      have H' := Aside0.mk H
      clear H
      obtain ⟨Ao13, co13, eo13⟩ := Kd.R_slice HO363.out
      subst eo13
      obtain ⟨Ao14, co14, eo14⟩ := Kd.R_slice HO367.out
      subst eo14
      go_wp2_with (first | (go_at_call 18; (with_reducible refine (stockadelaw02_same.calls k1 _ _ t361 _ _ t365 t369 _ ?side1 ?side2 ?side3 ?side4 A12.out).mono ?_); (case side1 => repeat (first | exact (Kd.R_reads' HO363.out).2.2 | (with_reducible refine Kd.C_alloc ?_ _) | (with_reducible refine Kd.C_drewN ?_ _) | (with_reducible refine Kd.C_drew ?_))); (case side2 => exact (Kd.R_reads' HO363.out).2.1); (case side3 => repeat (first | exact (Kd.R_reads' HO367.out).2.2 | (with_reducible refine Kd.C_alloc ?_ _) | (with_reducible refine Kd.C_drewN ?_ _) | (with_reducible refine Kd.C_drew ?_))); (case side4 => exact (Kd.R_reads' HO367.out).2.1); rintro e w' ⟨rfl, ⟨nd, rfl⟩⟩))
      go_meet
      case rel => exact ⟨_, (!t369), eq_now, H', ⟨by have := HK1.out; first | omega | exact Nat.le_refl _⟩, ⟨by (with_reducible repeat (first | apply Kd.R_alloc | apply Kd.R_drewN | apply Kd.R_drew)); exact Kd.R_mono HO363.out (fun _ hk => trivial)⟩, ⟨bk_now⟩, ⟨b_now⟩⟩
     ·rw [if_neg c11] at H
      have c11b0 : (t364 == t368) = false := beq_eq_false_iff_ne.mpr c11
      have c11b1 : (t364 != t368) = true := bne_iff_ne.mpr c11
      (first | rw [c11b0] | (simp only [i64_w, i32_w]; rw [c11b0]) | skip)
      have H' := Aside0.mk H
      clear H
      go_wp2
      go_meet
      case rel => exact ⟨_, (true), eq_now, H', ⟨by have := HK1.out; first | omega | exact Nat.le_refl _⟩, ⟨by (with_reducible repeat (first | apply Kd.R_alloc | apply Kd.R_drewN | apply Kd.R_drew)); exact Kd.R_mono HO363.out (fun _ hk => trivial)⟩, ⟨bk_now⟩, ⟨b_now⟩⟩
    case rest =>
     clear HC6
     try clear c1
     try clear c2
     try clear p2
     try clear c3
     try clear c3b0
     try clear c5
     try clear c11
     try clear c11b0
     try clear c11b1
     try clear hcz7
     try clear hcz9
     try clear p2
     obtain ⟨kq, x31_5, rfl, HA, HJ5, HO_4, BK359, HB⟩ := hcut
     cases kq with
     | zero => exact absurd HA.out (by simp [stockadelaw02_InsnBytes.j1])
     | succ kj5 =>
      have H := HA.out
      clear HA
      simp only [stockadelaw02_InsnBytes.j1] at H
      by_cases c15 : x31_5 = true
      ·subst c15
       replace H := sh_t H
       obtain rfl := Option.some.inj H
       exact absurd HRT.out (by simp)
      ·replace c15 := Bool.eq_false_iff.mpr c15
       subst c15
       replace H := sh_f H
       have H' := Aside0.mk H
       clear H
       go_wp2
       go_loopg [8] kj5 (fun kq v8 w' => ∃ (x4_3 : List Int) (x8_3 : Int), v8 = .int .i64 x8_3 ∧ Aside0 (stockadelaw02_InsnBytes.l1 kq x3_1 x4_3 x8_3 a0_0 a0_1 a0_2 a0_3 a0_4 = some r) ∧ Aside0 (kq ≤ kj5) ∧ Aside0 (Kd.R (Kd.int .u8) 5 w' w.heap.size (fun _ => True) v362 x4_3) ∧ Aside0 (w'.heap[gb359]? = some (.cells #[.int .u8 a0_0, .int .u8 a0_1, .int .u8 a0_2, .int .i16 a0_3, .int .i32 a0_4] 24 (0, 0))) ∧ Aside0 (Below w.heap.size w w'))
       case atStart => exact ⟨(t361), (0), eq_now, H', ⟨Nat.le_refl _⟩, ⟨by (with_reducible repeat (first | apply Kd.R_alloc | apply Kd.R_drewN | apply Kd.R_drew)); exact HO_4.out⟩, ⟨bk_now⟩, ⟨b_now⟩⟩
       case round =>
        clear H'
        try clear c1
        try clear c2
        try clear p2
        try clear c3
        try clear c3b0
        try clear c5
        try clear c11
        try clear c11b0
        try clear c11b1
        try clear c15
        try clear hcz7
        try clear hcz9
        try clear p2
        obtain ⟨x4_3, x8_3, rfl, HA, HK3, HO_4, BK359, HB⟩ := hrel
        cases gk with
        | zero => exact absurd HA.out (by simp [stockadelaw02_InsnBytes.l1])
        | succ k3 =>
         have H := HA.out
         clear HA
         simp only [stockadelaw02_InsnBytes.l1] at H
         by_cases c16 : x8_3 < (x4_3.length : Int)
         ·rw [if_pos c16] at H
          have c16b0 : decide (x8_3 < (x4_3.length : Int)) = true := decide_eq_true c16
          clear c16
          by_cases c17 : 0 ≤ x8_3
          ·rw [if_pos c17] at H
           have c17b0 : decide (0 ≤ x8_3) = true := decide_eq_true c17
           clear c17
           obtain ⟨y370, hy370⟩ : ∃ y_ : List Int, y_ = (x4_3.set (x8_3 : Int).toNat 90) := ⟨_, rfl⟩
           replace H : (stockadelaw02_InsnBytes.l1 k3 x3_1 y370 (wrap64 (x8_3 + 1)) a0_0 a0_1 a0_2 a0_3 a0_4) = some r := by first | (rw [hy370]; with_reducible exact H) | (have H2_ := (Option.bind_some _ _).symm.trans H; rw [hy370]; with_reducible exact H2_) | (have H2_ := (Option.bind_some _ _).symm.trans H; with_reducible exact H2_) | with_reducible exact H | (rw [hy370]; exact H) | exact H
           have Ny370 := Aside0.mk hy370
           clear hy370
           have H' := Aside0.mk H
           clear H
           obtain ⟨Ao19, co19, eo19⟩ := Kd.R_slice HO_4.out
           subst eo19
           have p18 : 0 ≤ (x8_3 : Int) := of_decide_eq_true (by first | (with_reducible assumption) | assumption)
           have q18 : (x8_3 : Int) < ((x4_3.length : Int) : Int) := of_decide_eq_true (by first | (with_reducible assumption) | assumption)
           obtain ⟨go18, co18, eo18, gb18, gl18, cl18, HG18⟩ := Kd.R_form HO_4.out (by omega)
           (first | cases eo18 | (injection eo18 with ea_ en_ ec_; (first | subst ea_ | (injection ea_ with ea_; subst ea_)); subst ec_; clear en_))
           have GB18 := Aside0.mk gb18
           have GG18 := Aside0.mk HG18
           clear gb18 gl18 HG18
           obtain ⟨hx18_0, hf18_0⟩ := Kd.R_celln 0 HO_4.out (x8_3 : Int) p18 q18
           replace p18 := eq_true p18
           replace q18 := eq_true q18
           have HP20 := Kd.R_putg HO_4.out (x8_3 : Int) 90
           go_wp2_with (first | ((with_reducible refine gate_store (t := 5) (p := 40) rfl ?_); refine store_event (t := 5) (p := 40) (v := ?vo_w21) (w1 := (wr.setCell ⟨go18, (x8_3 : Int).toNat, none⟩ (.int .u8 90))) ?hg ?ho ?hn ?hr ?_; (case ho => rfl); (case hg => rfl); (case hn => rfl); (case hr => first | (go_simp; done) | (go_simp; rfl)); intro w21 hw; have hg : wr.grownBy w21 (some go18) := (by rw [hw]; exact HP20.2); have hp_ : Kd.R (Kd.int .u8) 5 w21 w.heap.size (fun _ => True) (.slice (some ⟨go18, 0, none⟩) x4_3.length co19) y370 := (by rw [hw, Ny370.out]; exact HP20.1); clear HP20; have n0_ := Aside0.mk (hp_); have n1_ := Aside0.mk (blk_grown (g := gb359) (o := .cells #[.int .u8 a0_0, .int .u8 a0_1, .int .u8 a0_2, .int .i16 a0_3, .int .i32 a0_4] 24 (0, 0)) bk_now hg (Kd.R_ne HO_4.out BK359.out (by decide))); have n2_ := Aside0.mk ((by rw [hw]; exact below_set (HB.out) GB18.out : Below w.heap.size w w21)); clear HO_4; clear BK359; clear HB; have HO_4 := n0_; have BK359 := n1_; have HB := n2_; clear n0_ n1_ n2_; clear hg hw hp_))
           go_roundg k3
           case measure => have := HK1.out; have := HJ5.out; have := HK3.out; omega
           case rel => exact ⟨(y370), (wrap64 (x8_3 + 1)), eq_now, H', ⟨by have := HK1.out; have := HJ5.out; have := HK3.out; omega⟩, ⟨by (with_reducible repeat (first | apply Kd.R_alloc | apply Kd.R_drewN | apply Kd.R_drew)); exact HO_4.out⟩, ⟨bk_now⟩, ⟨b_now⟩⟩
          ·rw [if_neg c17] at H
           exact absurd H (by simp)
         ·rw [if_neg c16] at H
          have c16b0 : decide (x8_3 < (x4_3.length : Int)) = false := decide_eq_false c16
          clear c16
          have H' := Aside0.mk H
          clear H
          obtain ⟨Ao22, co22, eo22⟩ := Kd.R_slice HO_4.out
          subst eo22
          go_wp2
          go_roundg k3
          case measure => have := HK1.out; have := HJ5.out; have := HK3.out; omega
          case rel => exact ⟨(wrap64 (x3_1 + 1)), eq_now, H', ⟨by have := HK1.out; have := HJ5.out; have := HK3.out; omega⟩, ⟨bk_now⟩, ⟨b_now⟩⟩
   ·rw [if_neg c3] at H
    have c3b0 : decide (x3_1 < 2) = false := decide_eq_false c3
    clear c3
    replace H := Option.bind_eq_some_iff.mp H; obtain ⟨t360, A230, H⟩ := H; try dsimp only at H
    have A23 := Aside0.mk A230
    clear A230
    obtain rfl := Option.some.inj H
    go_wp2_with (first | ((with_reducible refine gate_callee (f := 15) rfl ?_); refine sh_call (some 41) Tryd.func15 #[] ?_; (with_reducible refine (stockadelaw02_wakes.calls k1  t360 _ ?side1 (by first | rfl | exact HRT.out) A23.out).mono ?_); (case side1 => repeat (first | exact (Kd.C_below HRG0.out HB.out) | (with_reducible refine Kd.C_alloc ?_ _) | (with_reducible refine Kd.C_drewN ?_ _) | (with_reducible refine Kd.C_drew ?_))); rintro e w24 ⟨rfl, hb⟩; refine ⟨_, rfl, ?_⟩; replace BK359 := sh_k BK359 hb; replace HB := sh_b (w := w) hb; (try clear hb); (try clear hb2); (try clear hk); (try clear hi)))
    go_ret
    exact ⟨ret_now, b_now⟩

-- NOT PRINTED: function 6 (stockadelaw02_InsnBack)

end Go.Proofs.YtkojjjdeacdabaaDoor.P
