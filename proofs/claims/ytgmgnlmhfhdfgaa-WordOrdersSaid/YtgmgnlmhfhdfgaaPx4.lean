/- Made by this session's driver over the kit's printer: for each Go function a Lean function with the same answers, and a proof that the Go call comes to these answers; no conditions but the ones each theorem names. -/
import Derived.Test.YtgmgnlmhfhdfgaaPx0
import Derived.Test.YtgmgnlmhfhdfgaaPx1
import Derived.Test.YtgmgnlmhfhdfgaaPx3
namespace Go.Proofs.Ytgmgnlmhfhdfgaa.P
open Go.RowKit Go.Proofs.YtgmgnlmhfhdfgaaW.PrintWords Go.Proofs.YtgmgnlmhfhdfgaaW.PrintLast Go.Proofs.YtgmgnlmhfhdfgaaW.PrintMore
attribute [local go_sem] max2_int min2_int max_two min_two max_three min_three max_four min_four   -- for this text's walks alone
set_option linter.unusedVariables false
set_option linter.unusedSimpArgs false

/-! ### stockadelaw01_alu: function 22 -/
def stockadelaw01_alu.f (a0 : Int) (a1 : Bool) (a2 : Int) (a3 : Int) : Option (Int) := (word_Alu.f a0 a1 a2 a3).bind fun bt199 => (if bt199.2 = 0 then (some bt199.1) else (some 18446744073709551615))
set_option maxHeartbeats 8000000 in
set_option maxRecDepth 100000 in
theorem stockadelaw01_alu.calls (a0 : Int) (a1 : Bool) (a2 : Int) (a3 : Int) (r : Int) (w : World) (h : stockadelaw01_alu.f a0 a1 a2 a3 = some r) :
  Calls Try.prog 22 #[.int .i64 a0, .bool a1, .int .u64 a2, .int .u64 a3] w fun e w' => e = .returned (.int .u64 r) ∧ Drawn0 w w' := by
 have H : ((word_Alu.f a0 a1 a2 a3).bind fun bt199 => (if bt199.2 = 0 then (some bt199.1) else (some 18446744073709551615))) = some r := h
 clear h
 replace H := Option.bind_eq_some_iff.mp H; obtain ⟨⟨t199, t200⟩, A50, H⟩ := H; try dsimp only at H
 have A5 := Aside0.mk A50
 clear A50
 by_cases c6 : t200 = 0
 ·rw [if_pos c6] at H
  have c6b0 : (t200 == 0) = true := beq_iff_eq.mpr c6
  have c6b1 : (t200 != 0) = false := bne_eq_false_iff_eq.mpr c6
  clear c6
  obtain rfl := Option.some.inj H
  go_enter Try.func22, Try.ntmps22
  go_wp2_with (first | ((with_reducible refine gate_callee (f := 13) rfl ?_); refine sh_call (some 16) Try.func13 #[.int .i64 a0, .bool a1, .int .u64 a2, .int .u64 a3] ?_; (with_reducible refine (word_Alu.calls a0 a1 a2 a3 t199 t200 _ A5.out).mono ?_); rintro e w' ⟨rfl, ⟨nd, rfl⟩⟩; refine ⟨_, rfl, ?_⟩))
  go_ret
  exact ⟨by first | rfl | (simp; done) | (simp [*]; done), by repeat (first | exact Drawn0.refl _ | apply Drawn0.step)⟩
 ·rw [if_neg c6] at H
  have c6b0 : (t200 == 0) = false := beq_eq_false_iff_ne.mpr c6
  have c6b1 : (t200 != 0) = true := bne_iff_ne.mpr c6
  obtain rfl := Option.some.inj H
  go_enter Try.func22, Try.ntmps22
  go_wp2_with (first | ((with_reducible refine gate_callee (f := 13) rfl ?_); refine sh_call (some 16) Try.func13 #[.int .i64 a0, .bool a1, .int .u64 a2, .int .u64 a3] ?_; (with_reducible refine (word_Alu.calls a0 a1 a2 a3 t199 t200 _ A5.out).mono ?_); rintro e w' ⟨rfl, ⟨nd, rfl⟩⟩; refine ⟨_, rfl, ?_⟩))
  go_ret
  exact ⟨by first | rfl | (simp; done) | (simp [*]; done), by repeat (first | exact Drawn0.refl _ | apply Drawn0.step)⟩

/-! ### stockadelaw01_half: function 25 -/
def stockadelaw01_half.f (a0 : Int) : Option (Int) := some (Go.bits .and .u64 a0 4294967295)
set_option maxHeartbeats 8000000 in
set_option maxRecDepth 100000 in
theorem stockadelaw01_half.calls (a0 : Int) (r : Int) (w : World) (h : stockadelaw01_half.f a0 = some r) :
  Calls Try.prog 25 #[.int .u64 a0] w fun e w' => e = .returned (.int .u64 r) ∧ Drawn0 w w' := by
 have H : (some (Go.bits .and .u64 a0 4294967295)) = some r := h
 clear h
 obtain rfl := Option.some.inj H
 go_enter Try.func25, Try.ntmps25
 go_wp2
 go_ret
 exact ⟨by first | rfl | (simp; done) | (simp [*]; done), by repeat (first | exact Drawn0.refl _ | apply Drawn0.step)⟩

/-! ### stockadelaw01_fit: function 23 -/
def stockadelaw01_fit.f (a0 : Bool) (a1 : Int) : Option (Int) := if a0 = true then (some a1) else ((stockadelaw01_half.f a1).bind fun t201 => (some t201))
set_option maxHeartbeats 8000000 in
set_option maxRecDepth 100000 in
theorem stockadelaw01_fit.calls (a0 : Bool) (a1 : Int) (r : Int) (w : World) (h : stockadelaw01_fit.f a0 a1 = some r) :
  Calls Try.prog 23 #[.bool a0, .int .u64 a1] w fun e w' => e = .returned (.int .u64 r) ∧ Drawn0 w w' := by
 have H : (if a0 = true then (some a1) else ((stockadelaw01_half.f a1).bind fun t201 => (some t201))) = some r := h
 clear h
 by_cases c3 : a0 = true
 ·subst c3
  replace H := sh_t H
  obtain rfl := Option.some.inj H
  go_enter Try.func23, Try.ntmps23
  go_wp2
  go_ret
  exact ⟨by first | rfl | (simp; done) | (simp [*]; done), by repeat (first | exact Drawn0.refl _ | apply Drawn0.step)⟩
 ·replace c3 := Bool.eq_false_iff.mpr c3
  subst c3
  replace H := sh_f H
  replace H := Option.bind_eq_some_iff.mp H; obtain ⟨t201, A40, H⟩ := H; try dsimp only at H
  have A4 := Aside0.mk A40
  clear A40
  obtain rfl := Option.some.inj H
  go_enter Try.func23, Try.ntmps23
  go_wp2_with (first | ((with_reducible refine gate_callee (f := 25) rfl ?_); refine sh_call (some 8) Try.func25 #[.int .u64 a1] ?_; (with_reducible refine (stockadelaw01_half.calls a1 t201 _ A4.out).mono ?_); rintro e w' ⟨rfl, ⟨nd, rfl⟩⟩; refine ⟨_, rfl, ?_⟩))
  go_ret
  exact ⟨by first | rfl | (simp; done) | (simp [*]; done), by repeat (first | exact Drawn0.refl _ | apply Drawn0.step)⟩

/-! ### stockadelaw01_WordRing: function 6 -/
mutual
def stockadelaw01_WordRing.j0 : Nat → Int → Bool → Int → Int → Int → Int → Bool → Option (Bool)
 | 0, _, _, _, _, _, _, _ => none
 | k + 1, x1, x5, x6, x7, x8, x9, x50 => if x50 = true then (some false) else ((stockadelaw01_alu.f 2 x5 x1 x8).bind fun t210 => ((stockadelaw01_alu.f 2 x5 x1 x6).bind fun t211 => ((stockadelaw01_alu.f 2 x5 x1 x7).bind fun t212 => ((stockadelaw01_alu.f 0 x5 t211 t212).bind fun t213 => (if t210 = t213 then ((stockadelaw01_alu.f 0 x5 x8 x1).bind fun t214 => ((stockadelaw01_alu.f 0 x5 x7 x1).bind fun t215 => ((stockadelaw01_alu.f 0 x5 x6 t215).bind fun t216 => (if t214 = t216 then ((stockadelaw01_alu.f 2 x5 x9 x1).bind fun t217 => ((stockadelaw01_alu.f 2 x5 x7 x1).bind fun t218 => ((stockadelaw01_alu.f 2 x5 x6 t218).bind fun t219 => (stockadelaw01_WordRing.j1 k x1 x5 x6 x7 x8 (t217 != t219))))) else (stockadelaw01_WordRing.j1 k x1 x5 x6 x7 x8 true))))) else (some false))))))
def stockadelaw01_WordRing.j1 : Nat → Int → Bool → Int → Int → Int → Bool → Option (Bool)
 | 0, _, _, _, _, _, _ => none
 | k + 1, x1, x5, x6, x7, x8, x91 => if x91 = true then (some false) else ((stockadelaw01_alu.f 4 x5 x6 x7).bind fun t220 => ((stockadelaw01_alu.f 5 x5 x6 x7).bind fun t221 => ((stockadelaw01_alu.f 0 x5 t220 t221).bind fun t222 => (if t222 = x8 then ((stockadelaw01_alu.f 10 x5 x6 x7).bind fun t223 => ((stockadelaw01_alu.f 10 x5 t223 x7).bind fun t224 => ((stockadelaw01_fit.f x5 x6).bind fun t225 => (if t224 = t225 then ((stockadelaw01_alu.f 8 x5 x6 x1).bind fun t226 => ((stockadelaw01_alu.f 0 x5 x6 t226).bind fun t227 => (if t227 = 0 then ((stockadelaw01_alu.f 11 x5 x6 x7).bind fun t228 => ((stockadelaw01_fit.f x5 x7).bind fun t229 => (some (t228 == t229)))) else (some false)))) else (some false))))) else (some false)))))
end
def stockadelaw01_WordRing.f (k : Nat) (a0_0 : Int) (a0_1 : Bool) (a0_2 : Int) (a0_3 : Int) (a1 : Int) : Option (Bool) := (stockadelaw01_awake.f k).bind fun t203 => (if t203 = true then ((stockadelaw01_alu.f 0 a0_1 a0_2 a0_3).bind fun t204 => ((stockadelaw01_alu.f 2 a0_1 a0_2 a0_3).bind fun t205 => ((stockadelaw01_alu.f 0 a0_1 a0_3 a0_2).bind fun t206 => (if t204 = t206 then ((stockadelaw01_alu.f 2 a0_1 a0_3 a0_2).bind fun t207 => (if t205 = t207 then ((stockadelaw01_alu.f 1 a0_1 t204 a0_3).bind fun t208 => ((stockadelaw01_fit.f a0_1 a0_2).bind fun t209 => (stockadelaw01_WordRing.j0 k a1 a0_1 a0_2 a0_3 t204 t205 (t208 != t209)))) else (stockadelaw01_WordRing.j0 k a1 a0_1 a0_2 a0_3 t204 t205 true))) else (stockadelaw01_WordRing.j0 k a1 a0_1 a0_2 a0_3 t204 t205 true))))) else (some false))
theorem stockadelaw01_WordRing.mono_l : ∀ k, (∀ y0 y1 y2 y3 y4 y5 y6, LeO (stockadelaw01_WordRing.j0 k y0 y1 y2 y3 y4 y5 y6) (stockadelaw01_WordRing.j0 (k + 1) y0 y1 y2 y3 y4 y5 y6)) ∧ (∀ y0 y1 y2 y3 y4 y5, LeO (stockadelaw01_WordRing.j1 k y0 y1 y2 y3 y4 y5) (stockadelaw01_WordRing.j1 (k + 1) y0 y1 y2 y3 y4 y5))
 | 0 => ⟨fun _ _ _ _ _ _ _ r h => by simp [stockadelaw01_WordRing.j0] at h, fun _ _ _ _ _ _ r h => by simp [stockadelaw01_WordRing.j1] at h⟩
 | k + 1 => by
  obtain ⟨ih0, ih1⟩ := stockadelaw01_WordRing.mono_l k
  refine ⟨?_, ?_⟩
  ·intro y0 y1 y2 y3 y4 y5 y6
   unfold stockadelaw01_WordRing.j0
   repeat' first
   | (with_reducible exact ih0 _ _ _ _ _ _ _)
   | (with_reducible exact ih1 _ _ _ _ _ _)
   | (with_reducible exact stockadelaw01_awake.mono _)
   | (with_reducible exact LeO.refl _)
   | (with_reducible exact LeO.none _)
   | (with_reducible refine LeO.ite ?_ ?_)
   | (with_reducible refine LeO.bind ?_ (fun _ => ?_))
   | exact ih0 _ _ _ _ _ _ _
   | exact ih1 _ _ _ _ _ _
   | exact stockadelaw01_awake.mono _
   | exact LeO.none _
   | refine LeO.ite ?_ ?_
   | refine LeO.bind ?_ (fun _ => ?_)
  ·intro y0 y1 y2 y3 y4 y5
   unfold stockadelaw01_WordRing.j1
   repeat' first
   | (with_reducible exact ih0 _ _ _ _ _ _ _)
   | (with_reducible exact ih1 _ _ _ _ _ _)
   | (with_reducible exact stockadelaw01_awake.mono _)
   | (with_reducible exact LeO.refl _)
   | (with_reducible exact LeO.none _)
   | (with_reducible refine LeO.ite ?_ ?_)
   | (with_reducible refine LeO.bind ?_ (fun _ => ?_))
   | exact ih0 _ _ _ _ _ _ _
   | exact ih1 _ _ _ _ _ _
   | exact stockadelaw01_awake.mono _
   | exact LeO.none _
   | refine LeO.ite ?_ ?_
   | refine LeO.bind ?_ (fun _ => ?_)
theorem stockadelaw01_WordRing.mono : ∀ a0 a1 a2 a3 a4 k, LeO (stockadelaw01_WordRing.f k a0 a1 a2 a3 a4) (stockadelaw01_WordRing.f (k + 1) a0 a1 a2 a3 a4) := by
 intro a0 a1 a2 a3 a4 k
 obtain ⟨ih0, ih1⟩ := stockadelaw01_WordRing.mono_l k
 unfold stockadelaw01_WordRing.f
 repeat' first
   | (with_reducible exact ih0 _ _ _ _ _ _ _)
   | (with_reducible exact ih1 _ _ _ _ _ _)
   | (with_reducible exact stockadelaw01_awake.mono _)
   | (with_reducible exact LeO.refl _)
   | (with_reducible exact LeO.none _)
   | (with_reducible refine LeO.ite ?_ ?_)
   | (with_reducible refine LeO.bind ?_ (fun _ => ?_))
   | exact ih0 _ _ _ _ _ _ _
   | exact ih1 _ _ _ _ _ _
   | exact stockadelaw01_awake.mono _
   | exact LeO.none _
   | refine LeO.ite ?_ ?_
   | refine LeO.bind ?_ (fun _ => ?_)
set_option maxHeartbeats 8000000 in
set_option maxRecDepth 100000 in
theorem stockadelaw01_WordRing.calls (k : Nat) (a0_0 : Int) (a0_1 : Bool) (a0_2 : Int) (a0_3 : Int) (a1 : Int) (r : Bool) (w : World) (hr_ : r = true) (h : stockadelaw01_WordRing.f k a0_0 a0_1 a0_2 a0_3 a1 = some r) :
  Calls Try.prog 6 #[.agg #[.int .i64 a0_0, .bool a0_1, .int .u64 a0_2, .int .u64 a0_3], .int .u64 a1] w fun e w' => e = .returned (.bool r) ∧ Below w.heap.size w w' := by
 have hu24 := Try.underlying24
 have HRT := Aside0.mk hr_
 clear hr_
 have HB := Aside0.mk (Below.refl w.heap.size w)
 have H : ((stockadelaw01_awake.f k).bind fun t203 => (if t203 = true then ((stockadelaw01_alu.f 0 a0_1 a0_2 a0_3).bind fun t204 => ((stockadelaw01_alu.f 2 a0_1 a0_2 a0_3).bind fun t205 => ((stockadelaw01_alu.f 0 a0_1 a0_3 a0_2).bind fun t206 => (if t204 = t206 then ((stockadelaw01_alu.f 2 a0_1 a0_3 a0_2).bind fun t207 => (if t205 = t207 then ((stockadelaw01_alu.f 1 a0_1 t204 a0_3).bind fun t208 => ((stockadelaw01_fit.f a0_1 a0_2).bind fun t209 => (stockadelaw01_WordRing.j0 k a1 a0_1 a0_2 a0_3 t204 t205 (t208 != t209)))) else (stockadelaw01_WordRing.j0 k a1 a0_1 a0_2 a0_3 t204 t205 true))) else (stockadelaw01_WordRing.j0 k a1 a0_1 a0_2 a0_3 t204 t205 true))))) else (some false))) = some r := h
 clear h
 replace H := Option.bind_eq_some_iff.mp H; obtain ⟨t203, A30, H⟩ := H; try dsimp only at H
 have A3 := Aside0.mk A30
 clear A30
 by_cases c4 : t203 = true
 ·subst c4
  replace H := sh_t H
  replace H := Option.bind_eq_some_iff.mp H; obtain ⟨t204, A50, H⟩ := H; try dsimp only at H
  have A5 := Aside0.mk A50
  clear A50
  replace H := Option.bind_eq_some_iff.mp H; obtain ⟨t205, A60, H⟩ := H; try dsimp only at H
  have A6 := Aside0.mk A60
  clear A60
  have HC7 := Aside0.mk H
  clear H
  go_enter Try.func6, Try.ntmps6
  go_upto_region 5 with (first | ((with_reducible refine gate_dst (N := 2) rfl ?_); refine sh_box 2 #[.int .i64 a0_0, .bool a0_1, .int .u64 a0_2, .int .u64 a0_3] 24 ?_; intro gb202 hg w8 hbox hb; have GE202 := sh_z (w := w) hg; replace HB := sh_b (w := w) hb; have BK202 := Aside0.mk (hbox); clear hb hbox hg; have hcz9 := blk_all4 BK202.out) | (go_at_call 15; (with_reducible refine (stockadelaw01_awake.calls k  true _ A3.out).mono ?_); rintro e w' ⟨rfl, ⟨nd, rfl⟩⟩; (try first | exact ⟨rfl, _, World.drewN_drewN _ _ _⟩ | exact ⟨rfl, _, Eq.trans (World.drewN_drewN _ _ _) (congrArg (World.drewN _) (Nat.add_assoc _ _ _))⟩)) | (go_at_call 22; (with_reducible refine (stockadelaw01_alu.calls 0 a0_1 a0_2 a0_3 t204 _ A5.out).mono ?_); rintro e w' ⟨rfl, ⟨nd, rfl⟩⟩; (try first | exact ⟨rfl, _, World.drewN_drewN _ _ _⟩ | exact ⟨rfl, _, Eq.trans (World.drewN_drewN _ _ _) (congrArg (World.drewN _) (Nat.add_assoc _ _ _))⟩)) | (go_at_call 22; (with_reducible refine (stockadelaw01_alu.calls 2 a0_1 a0_2 a0_3 t205 _ A6.out).mono ?_); rintro e w' ⟨rfl, ⟨nd, rfl⟩⟩; (try first | exact ⟨rfl, _, World.drewN_drewN _ _ _⟩ | exact ⟨rfl, _, Eq.trans (World.drewN_drewN _ _ _) (congrArg (World.drewN _) (Nat.add_assoc _ _ _))⟩)))
  repeat (go_quiet (first | ((with_reducible refine gate_dst (N := 2) rfl ?_); refine sh_box 2 #[.int .i64 a0_0, .bool a0_1, .int .u64 a0_2, .int .u64 a0_3] 24 ?_; intro gb202 hg w8 hbox hb; have GE202 := sh_z (w := w) hg; replace HB := sh_b (w := w) hb; have BK202 := Aside0.mk (hbox); clear hb hbox hg; have hcz9 := blk_all4 BK202.out) | (go_at_call 15; (with_reducible refine (stockadelaw01_awake.calls k  true _ A3.out).mono ?_); rintro e w' ⟨rfl, ⟨nd, rfl⟩⟩; (try first | exact ⟨rfl, _, World.drewN_drewN _ _ _⟩ | exact ⟨rfl, _, Eq.trans (World.drewN_drewN _ _ _) (congrArg (World.drewN _) (Nat.add_assoc _ _ _))⟩)) | (go_at_call 22; (with_reducible refine (stockadelaw01_alu.calls 0 a0_1 a0_2 a0_3 t204 _ A5.out).mono ?_); rintro e w' ⟨rfl, ⟨nd, rfl⟩⟩; (try first | exact ⟨rfl, _, World.drewN_drewN _ _ _⟩ | exact ⟨rfl, _, Eq.trans (World.drewN_drewN _ _ _) (congrArg (World.drewN _) (Nat.add_assoc _ _ _))⟩)) | (go_at_call 22; (with_reducible refine (stockadelaw01_alu.calls 2 a0_1 a0_2 a0_3 t205 _ A6.out).mono ?_); rintro e w' ⟨rfl, ⟨nd, rfl⟩⟩; (try first | exact ⟨rfl, _, World.drewN_drewN _ _ _⟩ | exact ⟨rfl, _, Eq.trans (World.drewN_drewN _ _ _) (congrArg (World.drewN _) (Nat.add_assoc _ _ _))⟩))); go_upto_region 5 with (first | ((with_reducible refine gate_dst (N := 2) rfl ?_); refine sh_box 2 #[.int .i64 a0_0, .bool a0_1, .int .u64 a0_2, .int .u64 a0_3] 24 ?_; intro gb202 hg w8 hbox hb; have GE202 := sh_z (w := w) hg; replace HB := sh_b (w := w) hb; have BK202 := Aside0.mk (hbox); clear hb hbox hg; have hcz9 := blk_all4 BK202.out) | (go_at_call 15; (with_reducible refine (stockadelaw01_awake.calls k  true _ A3.out).mono ?_); rintro e w' ⟨rfl, ⟨nd, rfl⟩⟩; (try first | exact ⟨rfl, _, World.drewN_drewN _ _ _⟩ | exact ⟨rfl, _, Eq.trans (World.drewN_drewN _ _ _) (congrArg (World.drewN _) (Nat.add_assoc _ _ _))⟩)) | (go_at_call 22; (with_reducible refine (stockadelaw01_alu.calls 0 a0_1 a0_2 a0_3 t204 _ A5.out).mono ?_); rintro e w' ⟨rfl, ⟨nd, rfl⟩⟩; (try first | exact ⟨rfl, _, World.drewN_drewN _ _ _⟩ | exact ⟨rfl, _, Eq.trans (World.drewN_drewN _ _ _) (congrArg (World.drewN _) (Nat.add_assoc _ _ _))⟩)) | (go_at_call 22; (with_reducible refine (stockadelaw01_alu.calls 2 a0_1 a0_2 a0_3 t205 _ A6.out).mono ?_); rintro e w' ⟨rfl, ⟨nd, rfl⟩⟩; (try first | exact ⟨rfl, _, World.drewN_drewN _ _ _⟩ | exact ⟨rfl, _, Eq.trans (World.drewN_drewN _ _ _) (congrArg (World.drewN _) (Nat.add_assoc _ _ _))⟩))))
  (try simp only [Act.put, List.setIfInBounds_toArray, List.set_cons_zero, List.set_cons_succ])
  go_cut [50] (fun v50 wc => ∃ (kq : Nat) (x50_6 : Bool), v50 = .bool x50_6 ∧ Aside0 (stockadelaw01_WordRing.j0 kq a1 a0_1 a0_2 a0_3 t204 t205 x50_6 = some r) ∧ Aside0 (kq ≤ k) ∧ Aside0 (wc.heap[gb202]? = some (.cells #[.int .i64 a0_0, .bool a0_1, .int .u64 a0_2, .int .u64 a0_3] 24 (0, 0))) ∧ Aside0 (Below w.heap.size w wc))
  case first =>
   have H := HC7.out
   clear HC7
   replace H := Option.bind_eq_some_iff.mp H; obtain ⟨t206, A100, H⟩ := H; try dsimp only at H
   have A10 := Aside0.mk A100
   clear A100
   by_cases c11 : t204 = t206
   ·rw [if_pos c11] at H
    have c11b0 : (t204 == t206) = true := beq_iff_eq.mpr c11
    have c11b1 : (t204 != t206) = false := bne_eq_false_iff_eq.mpr c11
    clear c11
    (first | rw [c11b0] | (simp only [i64_w, i32_w]; rw [c11b0]) | skip)
    replace H := Option.bind_eq_some_iff.mp H; obtain ⟨t207, A120, H⟩ := H; try dsimp only at H
    have A12 := Aside0.mk A120
    clear A120
    by_cases c13 : t205 = t207
    ·rw [if_pos c13] at H
     have c13b0 : (t205 == t207) = true := beq_iff_eq.mpr c13
     have c13b1 : (t205 != t207) = false := bne_eq_false_iff_eq.mpr c13
     clear c13
     replace H := Option.bind_eq_some_iff.mp H; obtain ⟨t208, A140, H⟩ := H; try dsimp only at H
     have A14 := Aside0.mk A140
     clear A140
     replace H := Option.bind_eq_some_iff.mp H; obtain ⟨t209, A150, H⟩ := H; try dsimp only at H
     have A15 := Aside0.mk A150
     clear A150
     have H' := Aside0.mk H
     clear H
     go_wp2_with (first | (go_at_call 22; (with_reducible refine (stockadelaw01_alu.calls 0 a0_1 a0_3 a0_2 t206 _ A10.out).mono ?_); rintro e w' ⟨rfl, ⟨nd, rfl⟩⟩; (try first | exact ⟨rfl, _, World.drewN_drewN _ _ _⟩ | exact ⟨rfl, _, Eq.trans (World.drewN_drewN _ _ _) (congrArg (World.drewN _) (Nat.add_assoc _ _ _))⟩)) | (go_at_call 22; (with_reducible refine (stockadelaw01_alu.calls 2 a0_1 a0_3 a0_2 t207 _ A12.out).mono ?_); rintro e w' ⟨rfl, ⟨nd, rfl⟩⟩; (try first | exact ⟨rfl, _, World.drewN_drewN _ _ _⟩ | exact ⟨rfl, _, Eq.trans (World.drewN_drewN _ _ _) (congrArg (World.drewN _) (Nat.add_assoc _ _ _))⟩)) | (go_at_call 22; (with_reducible refine (stockadelaw01_alu.calls 1 a0_1 t204 a0_3 t208 _ A14.out).mono ?_); rintro e w' ⟨rfl, ⟨nd, rfl⟩⟩; (try first | exact ⟨rfl, _, World.drewN_drewN _ _ _⟩ | exact ⟨rfl, _, Eq.trans (World.drewN_drewN _ _ _) (congrArg (World.drewN _) (Nat.add_assoc _ _ _))⟩)) | (go_at_call 23; (with_reducible refine (stockadelaw01_fit.calls a0_1 a0_2 t209 _ A15.out).mono ?_); rintro e w' ⟨rfl, ⟨nd, rfl⟩⟩; (try first | exact ⟨rfl, _, World.drewN_drewN _ _ _⟩ | exact ⟨rfl, _, Eq.trans (World.drewN_drewN _ _ _) (congrArg (World.drewN _) (Nat.add_assoc _ _ _))⟩)))
     repeat (go_quiet (first | (go_at_call 22; (with_reducible refine (stockadelaw01_alu.calls 0 a0_1 a0_3 a0_2 t206 _ A10.out).mono ?_); rintro e w' ⟨rfl, ⟨nd, rfl⟩⟩; (try first | exact ⟨rfl, _, World.drewN_drewN _ _ _⟩ | exact ⟨rfl, _, Eq.trans (World.drewN_drewN _ _ _) (congrArg (World.drewN _) (Nat.add_assoc _ _ _))⟩)) | (go_at_call 22; (with_reducible refine (stockadelaw01_alu.calls 2 a0_1 a0_3 a0_2 t207 _ A12.out).mono ?_); rintro e w' ⟨rfl, ⟨nd, rfl⟩⟩; (try first | exact ⟨rfl, _, World.drewN_drewN _ _ _⟩ | exact ⟨rfl, _, Eq.trans (World.drewN_drewN _ _ _) (congrArg (World.drewN _) (Nat.add_assoc _ _ _))⟩)) | (go_at_call 22; (with_reducible refine (stockadelaw01_alu.calls 1 a0_1 t204 a0_3 t208 _ A14.out).mono ?_); rintro e w' ⟨rfl, ⟨nd, rfl⟩⟩; (try first | exact ⟨rfl, _, World.drewN_drewN _ _ _⟩ | exact ⟨rfl, _, Eq.trans (World.drewN_drewN _ _ _) (congrArg (World.drewN _) (Nat.add_assoc _ _ _))⟩)) | (go_at_call 23; (with_reducible refine (stockadelaw01_fit.calls a0_1 a0_2 t209 _ A15.out).mono ?_); rintro e w' ⟨rfl, ⟨nd, rfl⟩⟩; (try first | exact ⟨rfl, _, World.drewN_drewN _ _ _⟩ | exact ⟨rfl, _, Eq.trans (World.drewN_drewN _ _ _) (congrArg (World.drewN _) (Nat.add_assoc _ _ _))⟩))); try go_wp2_with (first | (go_at_call 22; (with_reducible refine (stockadelaw01_alu.calls 0 a0_1 a0_3 a0_2 t206 _ A10.out).mono ?_); rintro e w' ⟨rfl, ⟨nd, rfl⟩⟩; (try first | exact ⟨rfl, _, World.drewN_drewN _ _ _⟩ | exact ⟨rfl, _, Eq.trans (World.drewN_drewN _ _ _) (congrArg (World.drewN _) (Nat.add_assoc _ _ _))⟩)) | (go_at_call 22; (with_reducible refine (stockadelaw01_alu.calls 2 a0_1 a0_3 a0_2 t207 _ A12.out).mono ?_); rintro e w' ⟨rfl, ⟨nd, rfl⟩⟩; (try first | exact ⟨rfl, _, World.drewN_drewN _ _ _⟩ | exact ⟨rfl, _, Eq.trans (World.drewN_drewN _ _ _) (congrArg (World.drewN _) (Nat.add_assoc _ _ _))⟩)) | (go_at_call 22; (with_reducible refine (stockadelaw01_alu.calls 1 a0_1 t204 a0_3 t208 _ A14.out).mono ?_); rintro e w' ⟨rfl, ⟨nd, rfl⟩⟩; (try first | exact ⟨rfl, _, World.drewN_drewN _ _ _⟩ | exact ⟨rfl, _, Eq.trans (World.drewN_drewN _ _ _) (congrArg (World.drewN _) (Nat.add_assoc _ _ _))⟩)) | (go_at_call 23; (with_reducible refine (stockadelaw01_fit.calls a0_1 a0_2 t209 _ A15.out).mono ?_); rintro e w' ⟨rfl, ⟨nd, rfl⟩⟩; (try first | exact ⟨rfl, _, World.drewN_drewN _ _ _⟩ | exact ⟨rfl, _, Eq.trans (World.drewN_drewN _ _ _) (congrArg (World.drewN _) (Nat.add_assoc _ _ _))⟩))))
     go_meet
     case rel => exact ⟨_, ((t208 != t209)), eq_now, H', ⟨by first | omega | exact Nat.le_refl _⟩, ⟨bk_now⟩, ⟨b_now⟩⟩
    ·rw [if_neg c13] at H
     have c13b0 : (t205 == t207) = false := beq_eq_false_iff_ne.mpr c13
     have c13b1 : (t205 != t207) = true := bne_iff_ne.mpr c13
     have H' := Aside0.mk H
     clear H
     go_wp2_with (first | (go_at_call 22; (with_reducible refine (stockadelaw01_alu.calls 0 a0_1 a0_3 a0_2 t206 _ A10.out).mono ?_); rintro e w' ⟨rfl, ⟨nd, rfl⟩⟩; (try first | exact ⟨rfl, _, World.drewN_drewN _ _ _⟩ | exact ⟨rfl, _, Eq.trans (World.drewN_drewN _ _ _) (congrArg (World.drewN _) (Nat.add_assoc _ _ _))⟩)) | (go_at_call 22; (with_reducible refine (stockadelaw01_alu.calls 2 a0_1 a0_3 a0_2 t207 _ A12.out).mono ?_); rintro e w' ⟨rfl, ⟨nd, rfl⟩⟩; (try first | exact ⟨rfl, _, World.drewN_drewN _ _ _⟩ | exact ⟨rfl, _, Eq.trans (World.drewN_drewN _ _ _) (congrArg (World.drewN _) (Nat.add_assoc _ _ _))⟩)))
     repeat (go_quiet (first | (go_at_call 22; (with_reducible refine (stockadelaw01_alu.calls 0 a0_1 a0_3 a0_2 t206 _ A10.out).mono ?_); rintro e w' ⟨rfl, ⟨nd, rfl⟩⟩; (try first | exact ⟨rfl, _, World.drewN_drewN _ _ _⟩ | exact ⟨rfl, _, Eq.trans (World.drewN_drewN _ _ _) (congrArg (World.drewN _) (Nat.add_assoc _ _ _))⟩)) | (go_at_call 22; (with_reducible refine (stockadelaw01_alu.calls 2 a0_1 a0_3 a0_2 t207 _ A12.out).mono ?_); rintro e w' ⟨rfl, ⟨nd, rfl⟩⟩; (try first | exact ⟨rfl, _, World.drewN_drewN _ _ _⟩ | exact ⟨rfl, _, Eq.trans (World.drewN_drewN _ _ _) (congrArg (World.drewN _) (Nat.add_assoc _ _ _))⟩))); try go_wp2_with (first | (go_at_call 22; (with_reducible refine (stockadelaw01_alu.calls 0 a0_1 a0_3 a0_2 t206 _ A10.out).mono ?_); rintro e w' ⟨rfl, ⟨nd, rfl⟩⟩; (try first | exact ⟨rfl, _, World.drewN_drewN _ _ _⟩ | exact ⟨rfl, _, Eq.trans (World.drewN_drewN _ _ _) (congrArg (World.drewN _) (Nat.add_assoc _ _ _))⟩)) | (go_at_call 22; (with_reducible refine (stockadelaw01_alu.calls 2 a0_1 a0_3 a0_2 t207 _ A12.out).mono ?_); rintro e w' ⟨rfl, ⟨nd, rfl⟩⟩; (try first | exact ⟨rfl, _, World.drewN_drewN _ _ _⟩ | exact ⟨rfl, _, Eq.trans (World.drewN_drewN _ _ _) (congrArg (World.drewN _) (Nat.add_assoc _ _ _))⟩))))
     go_meet
     case rel => exact ⟨_, (true), eq_now, H', ⟨by first | omega | exact Nat.le_refl _⟩, ⟨bk_now⟩, ⟨b_now⟩⟩
   ·rw [if_neg c11] at H
    have c11b0 : (t204 == t206) = false := beq_eq_false_iff_ne.mpr c11
    have c11b1 : (t204 != t206) = true := bne_iff_ne.mpr c11
    (first | rw [c11b0] | (simp only [i64_w, i32_w]; rw [c11b0]) | skip)
    have H' := Aside0.mk H
    clear H
    go_wp2_with (first | (go_at_call 22; (with_reducible refine (stockadelaw01_alu.calls 0 a0_1 a0_3 a0_2 t206 _ A10.out).mono ?_); rintro e w' ⟨rfl, ⟨nd, rfl⟩⟩; (try first | exact ⟨rfl, _, World.drewN_drewN _ _ _⟩ | exact ⟨rfl, _, Eq.trans (World.drewN_drewN _ _ _) (congrArg (World.drewN _) (Nat.add_assoc _ _ _))⟩)))
    repeat (go_quiet (first | (go_at_call 22; (with_reducible refine (stockadelaw01_alu.calls 0 a0_1 a0_3 a0_2 t206 _ A10.out).mono ?_); rintro e w' ⟨rfl, ⟨nd, rfl⟩⟩; (try first | exact ⟨rfl, _, World.drewN_drewN _ _ _⟩ | exact ⟨rfl, _, Eq.trans (World.drewN_drewN _ _ _) (congrArg (World.drewN _) (Nat.add_assoc _ _ _))⟩))); try go_wp2_with (first | (go_at_call 22; (with_reducible refine (stockadelaw01_alu.calls 0 a0_1 a0_3 a0_2 t206 _ A10.out).mono ?_); rintro e w' ⟨rfl, ⟨nd, rfl⟩⟩; (try first | exact ⟨rfl, _, World.drewN_drewN _ _ _⟩ | exact ⟨rfl, _, Eq.trans (World.drewN_drewN _ _ _) (congrArg (World.drewN _) (Nat.add_assoc _ _ _))⟩))))
    go_meet
    case rel => exact ⟨_, (true), eq_now, H', ⟨by first | omega | exact Nat.le_refl _⟩, ⟨bk_now⟩, ⟨b_now⟩⟩
  case rest =>
   clear HC7
   try clear c1
   try clear p2
   try clear c4
   try clear c6
   try clear c11
   try clear c11b0
   try clear c11b1
   try clear c13
   try clear c13b0
   try clear c13b1
   try clear hcz9
   obtain ⟨kq, x50_6, rfl, HA, HJ6, BK202, HB⟩ := hcut
   cases kq with
   | zero => exact absurd HA.out (by simp [stockadelaw01_WordRing.j0])
   | succ kj6 =>
    have H := HA.out
    clear HA
    simp only [stockadelaw01_WordRing.j0] at H
    by_cases c16 : x50_6 = true
    ·subst c16
     replace H := sh_t H
     obtain rfl := Option.some.inj H
     exact absurd HRT.out (by simp)
    ·replace c16 := Bool.eq_false_iff.mpr c16
     subst c16
     replace H := sh_f H
     replace H := Option.bind_eq_some_iff.mp H; obtain ⟨t210, A170, H⟩ := H; try dsimp only at H
     have A17 := Aside0.mk A170
     clear A170
     replace H := Option.bind_eq_some_iff.mp H; obtain ⟨t211, A180, H⟩ := H; try dsimp only at H
     have A18 := Aside0.mk A180
     clear A180
     replace H := Option.bind_eq_some_iff.mp H; obtain ⟨t212, A190, H⟩ := H; try dsimp only at H
     have A19 := Aside0.mk A190
     clear A190
     replace H := Option.bind_eq_some_iff.mp H; obtain ⟨t213, A200, H⟩ := H; try dsimp only at H
     have A20 := Aside0.mk A200
     clear A200
     by_cases c21 : t210 = t213
     ·rw [if_pos c21] at H
      have c21b0 : (t210 == t213) = true := beq_iff_eq.mpr c21
      have c21b1 : (t210 != t213) = false := bne_eq_false_iff_eq.mpr c21
      clear c21
      have HC22 := Aside0.mk H
      clear H
      go_upto_region 9 with (first | (go_at_call 22; (with_reducible refine (stockadelaw01_alu.calls 2 a0_1 a1 t204 t210 _ A17.out).mono ?_); rintro e w' ⟨rfl, ⟨nd, rfl⟩⟩; (try first | exact ⟨rfl, _, World.drewN_drewN _ _ _⟩ | exact ⟨rfl, _, Eq.trans (World.drewN_drewN _ _ _) (congrArg (World.drewN _) (Nat.add_assoc _ _ _))⟩)) | (go_at_call 22; (with_reducible refine (stockadelaw01_alu.calls 2 a0_1 a1 a0_2 t211 _ A18.out).mono ?_); rintro e w' ⟨rfl, ⟨nd, rfl⟩⟩; (try first | exact ⟨rfl, _, World.drewN_drewN _ _ _⟩ | exact ⟨rfl, _, Eq.trans (World.drewN_drewN _ _ _) (congrArg (World.drewN _) (Nat.add_assoc _ _ _))⟩)) | (go_at_call 22; (with_reducible refine (stockadelaw01_alu.calls 2 a0_1 a1 a0_3 t212 _ A19.out).mono ?_); rintro e w' ⟨rfl, ⟨nd, rfl⟩⟩; (try first | exact ⟨rfl, _, World.drewN_drewN _ _ _⟩ | exact ⟨rfl, _, Eq.trans (World.drewN_drewN _ _ _) (congrArg (World.drewN _) (Nat.add_assoc _ _ _))⟩)) | (go_at_call 22; (with_reducible refine (stockadelaw01_alu.calls 0 a0_1 t211 t212 t213 _ A20.out).mono ?_); rintro e w' ⟨rfl, ⟨nd, rfl⟩⟩; (try first | exact ⟨rfl, _, World.drewN_drewN _ _ _⟩ | exact ⟨rfl, _, Eq.trans (World.drewN_drewN _ _ _) (congrArg (World.drewN _) (Nat.add_assoc _ _ _))⟩)))
      repeat (go_quiet (first | (go_at_call 22; (with_reducible refine (stockadelaw01_alu.calls 2 a0_1 a1 t204 t210 _ A17.out).mono ?_); rintro e w' ⟨rfl, ⟨nd, rfl⟩⟩; (try first | exact ⟨rfl, _, World.drewN_drewN _ _ _⟩ | exact ⟨rfl, _, Eq.trans (World.drewN_drewN _ _ _) (congrArg (World.drewN _) (Nat.add_assoc _ _ _))⟩)) | (go_at_call 22; (with_reducible refine (stockadelaw01_alu.calls 2 a0_1 a1 a0_2 t211 _ A18.out).mono ?_); rintro e w' ⟨rfl, ⟨nd, rfl⟩⟩; (try first | exact ⟨rfl, _, World.drewN_drewN _ _ _⟩ | exact ⟨rfl, _, Eq.trans (World.drewN_drewN _ _ _) (congrArg (World.drewN _) (Nat.add_assoc _ _ _))⟩)) | (go_at_call 22; (with_reducible refine (stockadelaw01_alu.calls 2 a0_1 a1 a0_3 t212 _ A19.out).mono ?_); rintro e w' ⟨rfl, ⟨nd, rfl⟩⟩; (try first | exact ⟨rfl, _, World.drewN_drewN _ _ _⟩ | exact ⟨rfl, _, Eq.trans (World.drewN_drewN _ _ _) (congrArg (World.drewN _) (Nat.add_assoc _ _ _))⟩)) | (go_at_call 22; (with_reducible refine (stockadelaw01_alu.calls 0 a0_1 t211 t212 t213 _ A20.out).mono ?_); rintro e w' ⟨rfl, ⟨nd, rfl⟩⟩; (try first | exact ⟨rfl, _, World.drewN_drewN _ _ _⟩ | exact ⟨rfl, _, Eq.trans (World.drewN_drewN _ _ _) (congrArg (World.drewN _) (Nat.add_assoc _ _ _))⟩))); go_upto_region 9 with (first | (go_at_call 22; (with_reducible refine (stockadelaw01_alu.calls 2 a0_1 a1 t204 t210 _ A17.out).mono ?_); rintro e w' ⟨rfl, ⟨nd, rfl⟩⟩; (try first | exact ⟨rfl, _, World.drewN_drewN _ _ _⟩ | exact ⟨rfl, _, Eq.trans (World.drewN_drewN _ _ _) (congrArg (World.drewN _) (Nat.add_assoc _ _ _))⟩)) | (go_at_call 22; (with_reducible refine (stockadelaw01_alu.calls 2 a0_1 a1 a0_2 t211 _ A18.out).mono ?_); rintro e w' ⟨rfl, ⟨nd, rfl⟩⟩; (try first | exact ⟨rfl, _, World.drewN_drewN _ _ _⟩ | exact ⟨rfl, _, Eq.trans (World.drewN_drewN _ _ _) (congrArg (World.drewN _) (Nat.add_assoc _ _ _))⟩)) | (go_at_call 22; (with_reducible refine (stockadelaw01_alu.calls 2 a0_1 a1 a0_3 t212 _ A19.out).mono ?_); rintro e w' ⟨rfl, ⟨nd, rfl⟩⟩; (try first | exact ⟨rfl, _, World.drewN_drewN _ _ _⟩ | exact ⟨rfl, _, Eq.trans (World.drewN_drewN _ _ _) (congrArg (World.drewN _) (Nat.add_assoc _ _ _))⟩)) | (go_at_call 22; (with_reducible refine (stockadelaw01_alu.calls 0 a0_1 t211 t212 t213 _ A20.out).mono ?_); rintro e w' ⟨rfl, ⟨nd, rfl⟩⟩; (try first | exact ⟨rfl, _, World.drewN_drewN _ _ _⟩ | exact ⟨rfl, _, Eq.trans (World.drewN_drewN _ _ _) (congrArg (World.drewN _) (Nat.add_assoc _ _ _))⟩))))
      (try simp only [Act.put, List.setIfInBounds_toArray, List.set_cons_zero, List.set_cons_succ])
      go_cut [91] (fun v91 wc => ∃ (kq : Nat) (x91_21 : Bool), v91 = .bool x91_21 ∧ Aside0 (stockadelaw01_WordRing.j1 kq a1 a0_1 a0_2 a0_3 t204 x91_21 = some r) ∧ Aside0 (kq ≤ kj6) ∧ Aside0 (wc.heap[gb202]? = some (.cells #[.int .i64 a0_0, .bool a0_1, .int .u64 a0_2, .int .u64 a0_3] 24 (0, 0))) ∧ Aside0 (Below w.heap.size w wc))
      case first =>
       have H := HC22.out
       clear HC22
       replace H := Option.bind_eq_some_iff.mp H; obtain ⟨t214, A230, H⟩ := H; try dsimp only at H
       have A23 := Aside0.mk A230
       clear A230
       replace H := Option.bind_eq_some_iff.mp H; obtain ⟨t215, A240, H⟩ := H; try dsimp only at H
       have A24 := Aside0.mk A240
       clear A240
       replace H := Option.bind_eq_some_iff.mp H; obtain ⟨t216, A250, H⟩ := H; try dsimp only at H
       have A25 := Aside0.mk A250
       clear A250
       by_cases c26 : t214 = t216
       ·rw [if_pos c26] at H
        have c26b0 : (t214 == t216) = true := beq_iff_eq.mpr c26
        have c26b1 : (t214 != t216) = false := bne_eq_false_iff_eq.mpr c26
        clear c26
        (first | rw [c26b0] | (simp only [i64_w, i32_w]; rw [c26b0]) | skip)
        replace H := Option.bind_eq_some_iff.mp H; obtain ⟨t217, A270, H⟩ := H; try dsimp only at H
        have A27 := Aside0.mk A270
        clear A270
        replace H := Option.bind_eq_some_iff.mp H; obtain ⟨t218, A280, H⟩ := H; try dsimp only at H
        have A28 := Aside0.mk A280
        clear A280
        replace H := Option.bind_eq_some_iff.mp H; obtain ⟨t219, A290, H⟩ := H; try dsimp only at H
        have A29 := Aside0.mk A290
        clear A290
        have H' := Aside0.mk H
        clear H
        go_wp2_with (first | (go_at_call 22; (with_reducible refine (stockadelaw01_alu.calls 0 a0_1 t204 a1 t214 _ A23.out).mono ?_); rintro e w' ⟨rfl, ⟨nd, rfl⟩⟩; (try first | exact ⟨rfl, _, World.drewN_drewN _ _ _⟩ | exact ⟨rfl, _, Eq.trans (World.drewN_drewN _ _ _) (congrArg (World.drewN _) (Nat.add_assoc _ _ _))⟩)) | (go_at_call 22; (with_reducible refine (stockadelaw01_alu.calls 0 a0_1 a0_3 a1 t215 _ A24.out).mono ?_); rintro e w' ⟨rfl, ⟨nd, rfl⟩⟩; (try first | exact ⟨rfl, _, World.drewN_drewN _ _ _⟩ | exact ⟨rfl, _, Eq.trans (World.drewN_drewN _ _ _) (congrArg (World.drewN _) (Nat.add_assoc _ _ _))⟩)) | (go_at_call 22; (with_reducible refine (stockadelaw01_alu.calls 0 a0_1 a0_2 t215 t216 _ A25.out).mono ?_); rintro e w' ⟨rfl, ⟨nd, rfl⟩⟩; (try first | exact ⟨rfl, _, World.drewN_drewN _ _ _⟩ | exact ⟨rfl, _, Eq.trans (World.drewN_drewN _ _ _) (congrArg (World.drewN _) (Nat.add_assoc _ _ _))⟩)) | (go_at_call 22; (with_reducible refine (stockadelaw01_alu.calls 2 a0_1 t205 a1 t217 _ A27.out).mono ?_); rintro e w' ⟨rfl, ⟨nd, rfl⟩⟩; (try first | exact ⟨rfl, _, World.drewN_drewN _ _ _⟩ | exact ⟨rfl, _, Eq.trans (World.drewN_drewN _ _ _) (congrArg (World.drewN _) (Nat.add_assoc _ _ _))⟩)) | (go_at_call 22; (with_reducible refine (stockadelaw01_alu.calls 2 a0_1 a0_3 a1 t218 _ A28.out).mono ?_); rintro e w' ⟨rfl, ⟨nd, rfl⟩⟩; (try first | exact ⟨rfl, _, World.drewN_drewN _ _ _⟩ | exact ⟨rfl, _, Eq.trans (World.drewN_drewN _ _ _) (congrArg (World.drewN _) (Nat.add_assoc _ _ _))⟩)) | (go_at_call 22; (with_reducible refine (stockadelaw01_alu.calls 2 a0_1 a0_2 t218 t219 _ A29.out).mono ?_); rintro e w' ⟨rfl, ⟨nd, rfl⟩⟩; (try first | exact ⟨rfl, _, World.drewN_drewN _ _ _⟩ | exact ⟨rfl, _, Eq.trans (World.drewN_drewN _ _ _) (congrArg (World.drewN _) (Nat.add_assoc _ _ _))⟩)))
        repeat (go_quiet (first | (go_at_call 22; (with_reducible refine (stockadelaw01_alu.calls 0 a0_1 t204 a1 t214 _ A23.out).mono ?_); rintro e w' ⟨rfl, ⟨nd, rfl⟩⟩; (try first | exact ⟨rfl, _, World.drewN_drewN _ _ _⟩ | exact ⟨rfl, _, Eq.trans (World.drewN_drewN _ _ _) (congrArg (World.drewN _) (Nat.add_assoc _ _ _))⟩)) | (go_at_call 22; (with_reducible refine (stockadelaw01_alu.calls 0 a0_1 a0_3 a1 t215 _ A24.out).mono ?_); rintro e w' ⟨rfl, ⟨nd, rfl⟩⟩; (try first | exact ⟨rfl, _, World.drewN_drewN _ _ _⟩ | exact ⟨rfl, _, Eq.trans (World.drewN_drewN _ _ _) (congrArg (World.drewN _) (Nat.add_assoc _ _ _))⟩)) | (go_at_call 22; (with_reducible refine (stockadelaw01_alu.calls 0 a0_1 a0_2 t215 t216 _ A25.out).mono ?_); rintro e w' ⟨rfl, ⟨nd, rfl⟩⟩; (try first | exact ⟨rfl, _, World.drewN_drewN _ _ _⟩ | exact ⟨rfl, _, Eq.trans (World.drewN_drewN _ _ _) (congrArg (World.drewN _) (Nat.add_assoc _ _ _))⟩)) | (go_at_call 22; (with_reducible refine (stockadelaw01_alu.calls 2 a0_1 t205 a1 t217 _ A27.out).mono ?_); rintro e w' ⟨rfl, ⟨nd, rfl⟩⟩; (try first | exact ⟨rfl, _, World.drewN_drewN _ _ _⟩ | exact ⟨rfl, _, Eq.trans (World.drewN_drewN _ _ _) (congrArg (World.drewN _) (Nat.add_assoc _ _ _))⟩)) | (go_at_call 22; (with_reducible refine (stockadelaw01_alu.calls 2 a0_1 a0_3 a1 t218 _ A28.out).mono ?_); rintro e w' ⟨rfl, ⟨nd, rfl⟩⟩; (try first | exact ⟨rfl, _, World.drewN_drewN _ _ _⟩ | exact ⟨rfl, _, Eq.trans (World.drewN_drewN _ _ _) (congrArg (World.drewN _) (Nat.add_assoc _ _ _))⟩)) | (go_at_call 22; (with_reducible refine (stockadelaw01_alu.calls 2 a0_1 a0_2 t218 t219 _ A29.out).mono ?_); rintro e w' ⟨rfl, ⟨nd, rfl⟩⟩; (try first | exact ⟨rfl, _, World.drewN_drewN _ _ _⟩ | exact ⟨rfl, _, Eq.trans (World.drewN_drewN _ _ _) (congrArg (World.drewN _) (Nat.add_assoc _ _ _))⟩))); try go_wp2_with (first | (go_at_call 22; (with_reducible refine (stockadelaw01_alu.calls 0 a0_1 t204 a1 t214 _ A23.out).mono ?_); rintro e w' ⟨rfl, ⟨nd, rfl⟩⟩; (try first | exact ⟨rfl, _, World.drewN_drewN _ _ _⟩ | exact ⟨rfl, _, Eq.trans (World.drewN_drewN _ _ _) (congrArg (World.drewN _) (Nat.add_assoc _ _ _))⟩)) | (go_at_call 22; (with_reducible refine (stockadelaw01_alu.calls 0 a0_1 a0_3 a1 t215 _ A24.out).mono ?_); rintro e w' ⟨rfl, ⟨nd, rfl⟩⟩; (try first | exact ⟨rfl, _, World.drewN_drewN _ _ _⟩ | exact ⟨rfl, _, Eq.trans (World.drewN_drewN _ _ _) (congrArg (World.drewN _) (Nat.add_assoc _ _ _))⟩)) | (go_at_call 22; (with_reducible refine (stockadelaw01_alu.calls 0 a0_1 a0_2 t215 t216 _ A25.out).mono ?_); rintro e w' ⟨rfl, ⟨nd, rfl⟩⟩; (try first | exact ⟨rfl, _, World.drewN_drewN _ _ _⟩ | exact ⟨rfl, _, Eq.trans (World.drewN_drewN _ _ _) (congrArg (World.drewN _) (Nat.add_assoc _ _ _))⟩)) | (go_at_call 22; (with_reducible refine (stockadelaw01_alu.calls 2 a0_1 t205 a1 t217 _ A27.out).mono ?_); rintro e w' ⟨rfl, ⟨nd, rfl⟩⟩; (try first | exact ⟨rfl, _, World.drewN_drewN _ _ _⟩ | exact ⟨rfl, _, Eq.trans (World.drewN_drewN _ _ _) (congrArg (World.drewN _) (Nat.add_assoc _ _ _))⟩)) | (go_at_call 22; (with_reducible refine (stockadelaw01_alu.calls 2 a0_1 a0_3 a1 t218 _ A28.out).mono ?_); rintro e w' ⟨rfl, ⟨nd, rfl⟩⟩; (try first | exact ⟨rfl, _, World.drewN_drewN _ _ _⟩ | exact ⟨rfl, _, Eq.trans (World.drewN_drewN _ _ _) (congrArg (World.drewN _) (Nat.add_assoc _ _ _))⟩)) | (go_at_call 22; (with_reducible refine (stockadelaw01_alu.calls 2 a0_1 a0_2 t218 t219 _ A29.out).mono ?_); rintro e w' ⟨rfl, ⟨nd, rfl⟩⟩; (try first | exact ⟨rfl, _, World.drewN_drewN _ _ _⟩ | exact ⟨rfl, _, Eq.trans (World.drewN_drewN _ _ _) (congrArg (World.drewN _) (Nat.add_assoc _ _ _))⟩))))
        go_meet
        case rel => exact ⟨_, ((t217 != t219)), eq_now, H', ⟨by have := HJ6.out; first | omega | exact Nat.le_refl _⟩, ⟨bk_now⟩, ⟨b_now⟩⟩
       ·rw [if_neg c26] at H
        have c26b0 : (t214 == t216) = false := beq_eq_false_iff_ne.mpr c26
        have c26b1 : (t214 != t216) = true := bne_iff_ne.mpr c26
        (first | rw [c26b0] | (simp only [i64_w, i32_w]; rw [c26b0]) | skip)
        have H' := Aside0.mk H
        clear H
        go_wp2_with (first | (go_at_call 22; (with_reducible refine (stockadelaw01_alu.calls 0 a0_1 t204 a1 t214 _ A23.out).mono ?_); rintro e w' ⟨rfl, ⟨nd, rfl⟩⟩; (try first | exact ⟨rfl, _, World.drewN_drewN _ _ _⟩ | exact ⟨rfl, _, Eq.trans (World.drewN_drewN _ _ _) (congrArg (World.drewN _) (Nat.add_assoc _ _ _))⟩)) | (go_at_call 22; (with_reducible refine (stockadelaw01_alu.calls 0 a0_1 a0_3 a1 t215 _ A24.out).mono ?_); rintro e w' ⟨rfl, ⟨nd, rfl⟩⟩; (try first | exact ⟨rfl, _, World.drewN_drewN _ _ _⟩ | exact ⟨rfl, _, Eq.trans (World.drewN_drewN _ _ _) (congrArg (World.drewN _) (Nat.add_assoc _ _ _))⟩)) | (go_at_call 22; (with_reducible refine (stockadelaw01_alu.calls 0 a0_1 a0_2 t215 t216 _ A25.out).mono ?_); rintro e w' ⟨rfl, ⟨nd, rfl⟩⟩; (try first | exact ⟨rfl, _, World.drewN_drewN _ _ _⟩ | exact ⟨rfl, _, Eq.trans (World.drewN_drewN _ _ _) (congrArg (World.drewN _) (Nat.add_assoc _ _ _))⟩)))
        repeat (go_quiet (first | (go_at_call 22; (with_reducible refine (stockadelaw01_alu.calls 0 a0_1 t204 a1 t214 _ A23.out).mono ?_); rintro e w' ⟨rfl, ⟨nd, rfl⟩⟩; (try first | exact ⟨rfl, _, World.drewN_drewN _ _ _⟩ | exact ⟨rfl, _, Eq.trans (World.drewN_drewN _ _ _) (congrArg (World.drewN _) (Nat.add_assoc _ _ _))⟩)) | (go_at_call 22; (with_reducible refine (stockadelaw01_alu.calls 0 a0_1 a0_3 a1 t215 _ A24.out).mono ?_); rintro e w' ⟨rfl, ⟨nd, rfl⟩⟩; (try first | exact ⟨rfl, _, World.drewN_drewN _ _ _⟩ | exact ⟨rfl, _, Eq.trans (World.drewN_drewN _ _ _) (congrArg (World.drewN _) (Nat.add_assoc _ _ _))⟩)) | (go_at_call 22; (with_reducible refine (stockadelaw01_alu.calls 0 a0_1 a0_2 t215 t216 _ A25.out).mono ?_); rintro e w' ⟨rfl, ⟨nd, rfl⟩⟩; (try first | exact ⟨rfl, _, World.drewN_drewN _ _ _⟩ | exact ⟨rfl, _, Eq.trans (World.drewN_drewN _ _ _) (congrArg (World.drewN _) (Nat.add_assoc _ _ _))⟩))); try go_wp2_with (first | (go_at_call 22; (with_reducible refine (stockadelaw01_alu.calls 0 a0_1 t204 a1 t214 _ A23.out).mono ?_); rintro e w' ⟨rfl, ⟨nd, rfl⟩⟩; (try first | exact ⟨rfl, _, World.drewN_drewN _ _ _⟩ | exact ⟨rfl, _, Eq.trans (World.drewN_drewN _ _ _) (congrArg (World.drewN _) (Nat.add_assoc _ _ _))⟩)) | (go_at_call 22; (with_reducible refine (stockadelaw01_alu.calls 0 a0_1 a0_3 a1 t215 _ A24.out).mono ?_); rintro e w' ⟨rfl, ⟨nd, rfl⟩⟩; (try first | exact ⟨rfl, _, World.drewN_drewN _ _ _⟩ | exact ⟨rfl, _, Eq.trans (World.drewN_drewN _ _ _) (congrArg (World.drewN _) (Nat.add_assoc _ _ _))⟩)) | (go_at_call 22; (with_reducible refine (stockadelaw01_alu.calls 0 a0_1 a0_2 t215 t216 _ A25.out).mono ?_); rintro e w' ⟨rfl, ⟨nd, rfl⟩⟩; (try first | exact ⟨rfl, _, World.drewN_drewN _ _ _⟩ | exact ⟨rfl, _, Eq.trans (World.drewN_drewN _ _ _) (congrArg (World.drewN _) (Nat.add_assoc _ _ _))⟩))))
        go_meet
        case rel => exact ⟨_, (true), eq_now, H', ⟨by have := HJ6.out; first | omega | exact Nat.le_refl _⟩, ⟨bk_now⟩, ⟨b_now⟩⟩
      case rest =>
       clear HC22
       try clear c1
       try clear c2
       try clear p2
       try clear c4
       try clear c6
       try clear c11
       try clear c11b0
       try clear c11b1
       try clear c13
       try clear c13b0
       try clear c13b1
       try clear c16
       try clear c21
       try clear c21b0
       try clear c21b1
       try clear c26
       try clear c26b0
       try clear c26b1
       try clear hcz9
       try clear p2
       obtain ⟨kq, x91_21, rfl, HA, HJ21, BK202, HB⟩ := hcut
       cases kq with
       | zero => exact absurd HA.out (by simp [stockadelaw01_WordRing.j1])
       | succ kj21 =>
        have H := HA.out
        clear HA
        simp only [stockadelaw01_WordRing.j1] at H
        by_cases c30 : x91_21 = true
        ·subst c30
         replace H := sh_t H
         obtain rfl := Option.some.inj H
         exact absurd HRT.out (by simp)
        ·replace c30 := Bool.eq_false_iff.mpr c30
         subst c30
         replace H := sh_f H
         replace H := Option.bind_eq_some_iff.mp H; obtain ⟨t220, A310, H⟩ := H; try dsimp only at H
         have A31 := Aside0.mk A310
         clear A310
         replace H := Option.bind_eq_some_iff.mp H; obtain ⟨t221, A320, H⟩ := H; try dsimp only at H
         have A32 := Aside0.mk A320
         clear A320
         replace H := Option.bind_eq_some_iff.mp H; obtain ⟨t222, A330, H⟩ := H; try dsimp only at H
         have A33 := Aside0.mk A330
         clear A330
         by_cases c34 : t222 = t204
         ·rw [if_pos c34] at H
          have c34b0 : (t222 == t204) = true := beq_iff_eq.mpr c34
          have c34b1 : (t222 != t204) = false := bne_eq_false_iff_eq.mpr c34
          clear c34
          replace H := Option.bind_eq_some_iff.mp H; obtain ⟨t223, A350, H⟩ := H; try dsimp only at H
          have A35 := Aside0.mk A350
          clear A350
          replace H := Option.bind_eq_some_iff.mp H; obtain ⟨t224, A360, H⟩ := H; try dsimp only at H
          have A36 := Aside0.mk A360
          clear A360
          replace H := Option.bind_eq_some_iff.mp H; obtain ⟨t225, A370, H⟩ := H; try dsimp only at H
          have A37 := Aside0.mk A370
          clear A370
          by_cases c38 : t224 = t225
          ·rw [if_pos c38] at H
           have c38b0 : (t224 == t225) = true := beq_iff_eq.mpr c38
           have c38b1 : (t224 != t225) = false := bne_eq_false_iff_eq.mpr c38
           clear c38
           replace H := Option.bind_eq_some_iff.mp H; obtain ⟨t226, A390, H⟩ := H; try dsimp only at H
           have A39 := Aside0.mk A390
           clear A390
           replace H := Option.bind_eq_some_iff.mp H; obtain ⟨t227, A400, H⟩ := H; try dsimp only at H
           have A40 := Aside0.mk A400
           clear A400
           by_cases c41 : t227 = 0
           ·rw [if_pos c41] at H
            have c41b0 : (t227 == 0) = true := beq_iff_eq.mpr c41
            have c41b1 : (t227 != 0) = false := bne_eq_false_iff_eq.mpr c41
            clear c41
            replace H := Option.bind_eq_some_iff.mp H; obtain ⟨t228, A420, H⟩ := H; try dsimp only at H
            have A42 := Aside0.mk A420
            clear A420
            replace H := Option.bind_eq_some_iff.mp H; obtain ⟨t229, A430, H⟩ := H; try dsimp only at H
            have A43 := Aside0.mk A430
            clear A430
            obtain rfl := Option.some.inj H
            go_wp2_with (first | (go_at_call 22; (with_reducible refine (stockadelaw01_alu.calls 4 a0_1 a0_2 a0_3 t220 _ A31.out).mono ?_); rintro e w' ⟨rfl, ⟨nd, rfl⟩⟩; (try first | exact ⟨rfl, _, World.drewN_drewN _ _ _⟩ | exact ⟨rfl, _, Eq.trans (World.drewN_drewN _ _ _) (congrArg (World.drewN _) (Nat.add_assoc _ _ _))⟩)) | (go_at_call 22; (with_reducible refine (stockadelaw01_alu.calls 5 a0_1 a0_2 a0_3 t221 _ A32.out).mono ?_); rintro e w' ⟨rfl, ⟨nd, rfl⟩⟩; (try first | exact ⟨rfl, _, World.drewN_drewN _ _ _⟩ | exact ⟨rfl, _, Eq.trans (World.drewN_drewN _ _ _) (congrArg (World.drewN _) (Nat.add_assoc _ _ _))⟩)) | (go_at_call 22; (with_reducible refine (stockadelaw01_alu.calls 0 a0_1 t220 t221 t222 _ A33.out).mono ?_); rintro e w' ⟨rfl, ⟨nd, rfl⟩⟩; (try first | exact ⟨rfl, _, World.drewN_drewN _ _ _⟩ | exact ⟨rfl, _, Eq.trans (World.drewN_drewN _ _ _) (congrArg (World.drewN _) (Nat.add_assoc _ _ _))⟩)) | (go_at_call 22; (with_reducible refine (stockadelaw01_alu.calls 10 a0_1 a0_2 a0_3 t223 _ A35.out).mono ?_); rintro e w' ⟨rfl, ⟨nd, rfl⟩⟩; (try first | exact ⟨rfl, _, World.drewN_drewN _ _ _⟩ | exact ⟨rfl, _, Eq.trans (World.drewN_drewN _ _ _) (congrArg (World.drewN _) (Nat.add_assoc _ _ _))⟩)) | (go_at_call 22; (with_reducible refine (stockadelaw01_alu.calls 10 a0_1 t223 a0_3 t224 _ A36.out).mono ?_); rintro e w' ⟨rfl, ⟨nd, rfl⟩⟩; (try first | exact ⟨rfl, _, World.drewN_drewN _ _ _⟩ | exact ⟨rfl, _, Eq.trans (World.drewN_drewN _ _ _) (congrArg (World.drewN _) (Nat.add_assoc _ _ _))⟩)) | (go_at_call 23; (with_reducible refine (stockadelaw01_fit.calls a0_1 a0_2 t225 _ A37.out).mono ?_); rintro e w' ⟨rfl, ⟨nd, rfl⟩⟩; (try first | exact ⟨rfl, _, World.drewN_drewN _ _ _⟩ | exact ⟨rfl, _, Eq.trans (World.drewN_drewN _ _ _) (congrArg (World.drewN _) (Nat.add_assoc _ _ _))⟩)) | (go_at_call 22; (with_reducible refine (stockadelaw01_alu.calls 8 a0_1 a0_2 a1 t226 _ A39.out).mono ?_); rintro e w' ⟨rfl, ⟨nd, rfl⟩⟩; (try first | exact ⟨rfl, _, World.drewN_drewN _ _ _⟩ | exact ⟨rfl, _, Eq.trans (World.drewN_drewN _ _ _) (congrArg (World.drewN _) (Nat.add_assoc _ _ _))⟩)) | (go_at_call 22; (with_reducible refine (stockadelaw01_alu.calls 0 a0_1 a0_2 t226 t227 _ A40.out).mono ?_); rintro e w' ⟨rfl, ⟨nd, rfl⟩⟩; (try first | exact ⟨rfl, _, World.drewN_drewN _ _ _⟩ | exact ⟨rfl, _, Eq.trans (World.drewN_drewN _ _ _) (congrArg (World.drewN _) (Nat.add_assoc _ _ _))⟩)) | (go_at_call 22; (with_reducible refine (stockadelaw01_alu.calls 11 a0_1 a0_2 a0_3 t228 _ A42.out).mono ?_); rintro e w' ⟨rfl, ⟨nd, rfl⟩⟩; (try first | exact ⟨rfl, _, World.drewN_drewN _ _ _⟩ | exact ⟨rfl, _, Eq.trans (World.drewN_drewN _ _ _) (congrArg (World.drewN _) (Nat.add_assoc _ _ _))⟩)) | (go_at_call 23; (with_reducible refine (stockadelaw01_fit.calls a0_1 a0_3 t229 _ A43.out).mono ?_); rintro e w' ⟨rfl, ⟨nd, rfl⟩⟩; (try first | exact ⟨rfl, _, World.drewN_drewN _ _ _⟩ | exact ⟨rfl, _, Eq.trans (World.drewN_drewN _ _ _) (congrArg (World.drewN _) (Nat.add_assoc _ _ _))⟩)))
            repeat (go_quiet (first | (go_at_call 22; (with_reducible refine (stockadelaw01_alu.calls 4 a0_1 a0_2 a0_3 t220 _ A31.out).mono ?_); rintro e w' ⟨rfl, ⟨nd, rfl⟩⟩; (try first | exact ⟨rfl, _, World.drewN_drewN _ _ _⟩ | exact ⟨rfl, _, Eq.trans (World.drewN_drewN _ _ _) (congrArg (World.drewN _) (Nat.add_assoc _ _ _))⟩)) | (go_at_call 22; (with_reducible refine (stockadelaw01_alu.calls 5 a0_1 a0_2 a0_3 t221 _ A32.out).mono ?_); rintro e w' ⟨rfl, ⟨nd, rfl⟩⟩; (try first | exact ⟨rfl, _, World.drewN_drewN _ _ _⟩ | exact ⟨rfl, _, Eq.trans (World.drewN_drewN _ _ _) (congrArg (World.drewN _) (Nat.add_assoc _ _ _))⟩)) | (go_at_call 22; (with_reducible refine (stockadelaw01_alu.calls 0 a0_1 t220 t221 t222 _ A33.out).mono ?_); rintro e w' ⟨rfl, ⟨nd, rfl⟩⟩; (try first | exact ⟨rfl, _, World.drewN_drewN _ _ _⟩ | exact ⟨rfl, _, Eq.trans (World.drewN_drewN _ _ _) (congrArg (World.drewN _) (Nat.add_assoc _ _ _))⟩)) | (go_at_call 22; (with_reducible refine (stockadelaw01_alu.calls 10 a0_1 a0_2 a0_3 t223 _ A35.out).mono ?_); rintro e w' ⟨rfl, ⟨nd, rfl⟩⟩; (try first | exact ⟨rfl, _, World.drewN_drewN _ _ _⟩ | exact ⟨rfl, _, Eq.trans (World.drewN_drewN _ _ _) (congrArg (World.drewN _) (Nat.add_assoc _ _ _))⟩)) | (go_at_call 22; (with_reducible refine (stockadelaw01_alu.calls 10 a0_1 t223 a0_3 t224 _ A36.out).mono ?_); rintro e w' ⟨rfl, ⟨nd, rfl⟩⟩; (try first | exact ⟨rfl, _, World.drewN_drewN _ _ _⟩ | exact ⟨rfl, _, Eq.trans (World.drewN_drewN _ _ _) (congrArg (World.drewN _) (Nat.add_assoc _ _ _))⟩)) | (go_at_call 23; (with_reducible refine (stockadelaw01_fit.calls a0_1 a0_2 t225 _ A37.out).mono ?_); rintro e w' ⟨rfl, ⟨nd, rfl⟩⟩; (try first | exact ⟨rfl, _, World.drewN_drewN _ _ _⟩ | exact ⟨rfl, _, Eq.trans (World.drewN_drewN _ _ _) (congrArg (World.drewN _) (Nat.add_assoc _ _ _))⟩)) | (go_at_call 22; (with_reducible refine (stockadelaw01_alu.calls 8 a0_1 a0_2 a1 t226 _ A39.out).mono ?_); rintro e w' ⟨rfl, ⟨nd, rfl⟩⟩; (try first | exact ⟨rfl, _, World.drewN_drewN _ _ _⟩ | exact ⟨rfl, _, Eq.trans (World.drewN_drewN _ _ _) (congrArg (World.drewN _) (Nat.add_assoc _ _ _))⟩)) | (go_at_call 22; (with_reducible refine (stockadelaw01_alu.calls 0 a0_1 a0_2 t226 t227 _ A40.out).mono ?_); rintro e w' ⟨rfl, ⟨nd, rfl⟩⟩; (try first | exact ⟨rfl, _, World.drewN_drewN _ _ _⟩ | exact ⟨rfl, _, Eq.trans (World.drewN_drewN _ _ _) (congrArg (World.drewN _) (Nat.add_assoc _ _ _))⟩)) | (go_at_call 22; (with_reducible refine (stockadelaw01_alu.calls 11 a0_1 a0_2 a0_3 t228 _ A42.out).mono ?_); rintro e w' ⟨rfl, ⟨nd, rfl⟩⟩; (try first | exact ⟨rfl, _, World.drewN_drewN _ _ _⟩ | exact ⟨rfl, _, Eq.trans (World.drewN_drewN _ _ _) (congrArg (World.drewN _) (Nat.add_assoc _ _ _))⟩)) | (go_at_call 23; (with_reducible refine (stockadelaw01_fit.calls a0_1 a0_3 t229 _ A43.out).mono ?_); rintro e w' ⟨rfl, ⟨nd, rfl⟩⟩; (try first | exact ⟨rfl, _, World.drewN_drewN _ _ _⟩ | exact ⟨rfl, _, Eq.trans (World.drewN_drewN _ _ _) (congrArg (World.drewN _) (Nat.add_assoc _ _ _))⟩))); try go_wp2_with (first | (go_at_call 22; (with_reducible refine (stockadelaw01_alu.calls 4 a0_1 a0_2 a0_3 t220 _ A31.out).mono ?_); rintro e w' ⟨rfl, ⟨nd, rfl⟩⟩; (try first | exact ⟨rfl, _, World.drewN_drewN _ _ _⟩ | exact ⟨rfl, _, Eq.trans (World.drewN_drewN _ _ _) (congrArg (World.drewN _) (Nat.add_assoc _ _ _))⟩)) | (go_at_call 22; (with_reducible refine (stockadelaw01_alu.calls 5 a0_1 a0_2 a0_3 t221 _ A32.out).mono ?_); rintro e w' ⟨rfl, ⟨nd, rfl⟩⟩; (try first | exact ⟨rfl, _, World.drewN_drewN _ _ _⟩ | exact ⟨rfl, _, Eq.trans (World.drewN_drewN _ _ _) (congrArg (World.drewN _) (Nat.add_assoc _ _ _))⟩)) | (go_at_call 22; (with_reducible refine (stockadelaw01_alu.calls 0 a0_1 t220 t221 t222 _ A33.out).mono ?_); rintro e w' ⟨rfl, ⟨nd, rfl⟩⟩; (try first | exact ⟨rfl, _, World.drewN_drewN _ _ _⟩ | exact ⟨rfl, _, Eq.trans (World.drewN_drewN _ _ _) (congrArg (World.drewN _) (Nat.add_assoc _ _ _))⟩)) | (go_at_call 22; (with_reducible refine (stockadelaw01_alu.calls 10 a0_1 a0_2 a0_3 t223 _ A35.out).mono ?_); rintro e w' ⟨rfl, ⟨nd, rfl⟩⟩; (try first | exact ⟨rfl, _, World.drewN_drewN _ _ _⟩ | exact ⟨rfl, _, Eq.trans (World.drewN_drewN _ _ _) (congrArg (World.drewN _) (Nat.add_assoc _ _ _))⟩)) | (go_at_call 22; (with_reducible refine (stockadelaw01_alu.calls 10 a0_1 t223 a0_3 t224 _ A36.out).mono ?_); rintro e w' ⟨rfl, ⟨nd, rfl⟩⟩; (try first | exact ⟨rfl, _, World.drewN_drewN _ _ _⟩ | exact ⟨rfl, _, Eq.trans (World.drewN_drewN _ _ _) (congrArg (World.drewN _) (Nat.add_assoc _ _ _))⟩)) | (go_at_call 23; (with_reducible refine (stockadelaw01_fit.calls a0_1 a0_2 t225 _ A37.out).mono ?_); rintro e w' ⟨rfl, ⟨nd, rfl⟩⟩; (try first | exact ⟨rfl, _, World.drewN_drewN _ _ _⟩ | exact ⟨rfl, _, Eq.trans (World.drewN_drewN _ _ _) (congrArg (World.drewN _) (Nat.add_assoc _ _ _))⟩)) | (go_at_call 22; (with_reducible refine (stockadelaw01_alu.calls 8 a0_1 a0_2 a1 t226 _ A39.out).mono ?_); rintro e w' ⟨rfl, ⟨nd, rfl⟩⟩; (try first | exact ⟨rfl, _, World.drewN_drewN _ _ _⟩ | exact ⟨rfl, _, Eq.trans (World.drewN_drewN _ _ _) (congrArg (World.drewN _) (Nat.add_assoc _ _ _))⟩)) | (go_at_call 22; (with_reducible refine (stockadelaw01_alu.calls 0 a0_1 a0_2 t226 t227 _ A40.out).mono ?_); rintro e w' ⟨rfl, ⟨nd, rfl⟩⟩; (try first | exact ⟨rfl, _, World.drewN_drewN _ _ _⟩ | exact ⟨rfl, _, Eq.trans (World.drewN_drewN _ _ _) (congrArg (World.drewN _) (Nat.add_assoc _ _ _))⟩)) | (go_at_call 22; (with_reducible refine (stockadelaw01_alu.calls 11 a0_1 a0_2 a0_3 t228 _ A42.out).mono ?_); rintro e w' ⟨rfl, ⟨nd, rfl⟩⟩; (try first | exact ⟨rfl, _, World.drewN_drewN _ _ _⟩ | exact ⟨rfl, _, Eq.trans (World.drewN_drewN _ _ _) (congrArg (World.drewN _) (Nat.add_assoc _ _ _))⟩)) | (go_at_call 23; (with_reducible refine (stockadelaw01_fit.calls a0_1 a0_3 t229 _ A43.out).mono ?_); rintro e w' ⟨rfl, ⟨nd, rfl⟩⟩; (try first | exact ⟨rfl, _, World.drewN_drewN _ _ _⟩ | exact ⟨rfl, _, Eq.trans (World.drewN_drewN _ _ _) (congrArg (World.drewN _) (Nat.add_assoc _ _ _))⟩))))
            go_ret
            exact ⟨ret_now, b_now⟩
           ·rw [if_neg c41] at H
            have c41b0 : (t227 == 0) = false := beq_eq_false_iff_ne.mpr c41
            have c41b1 : (t227 != 0) = true := bne_iff_ne.mpr c41
            obtain rfl := Option.some.inj H
            exact absurd HRT.out (by simp)
          ·rw [if_neg c38] at H
           have c38b0 : (t224 == t225) = false := beq_eq_false_iff_ne.mpr c38
           have c38b1 : (t224 != t225) = true := bne_iff_ne.mpr c38
           obtain rfl := Option.some.inj H
           exact absurd HRT.out (by simp)
         ·rw [if_neg c34] at H
          have c34b0 : (t222 == t204) = false := beq_eq_false_iff_ne.mpr c34
          have c34b1 : (t222 != t204) = true := bne_iff_ne.mpr c34
          obtain rfl := Option.some.inj H
          exact absurd HRT.out (by simp)
     ·rw [if_neg c21] at H
      have c21b0 : (t210 == t213) = false := beq_eq_false_iff_ne.mpr c21
      have c21b1 : (t210 != t213) = true := bne_iff_ne.mpr c21
      obtain rfl := Option.some.inj H
      exact absurd HRT.out (by simp)
 ·replace c4 := Bool.eq_false_iff.mpr c4
  subst c4
  replace H := sh_f H
  obtain rfl := Option.some.inj H
  exact absurd HRT.out (by simp)

/-! ### stockadelaw01_WordDivides: function 7 -/
def stockadelaw01_WordDivides.f (k : Nat) (a0 : Bool) (a1 : Int) (a2 : Int) : Option (Bool) := (stockadelaw01_alu.f 3 a0 a1 a2).bind fun t230 => ((stockadelaw01_alu.f 9 a0 a1 a2).bind fun t231 => ((stockadelaw01_fit.f a0 a1).bind fun t232 => ((stockadelaw01_fit.f a0 a2).bind fun t233 => (if t233 = 0 then ((stockadelaw01_awake.f k).bind fun t234 => (if t234 = true then (if t230 = 0 then (some (t231 == t232)) else (some false)) else (some false))) else ((stockadelaw01_awake.f k).bind fun t235 => (if t235 = true then (if t231 < t233 then (if t230 ≤ t232 then ((stockadelaw01_alu.f 2 a0 t230 t233).bind fun t236 => ((stockadelaw01_alu.f 0 a0 t236 t231).bind fun t237 => (some (t237 == t232)))) else (some false)) else (some false)) else (some false)))))))
theorem stockadelaw01_WordDivides.mono : ∀ a0 a1 a2 k, LeO (stockadelaw01_WordDivides.f k a0 a1 a2) (stockadelaw01_WordDivides.f (k + 1) a0 a1 a2) := by
 intro a0 a1 a2 k
 unfold stockadelaw01_WordDivides.f
 repeat' first
   | (with_reducible exact stockadelaw01_awake.mono _)
   | (with_reducible exact LeO.refl _)
   | (with_reducible exact LeO.none _)
   | (with_reducible refine LeO.ite ?_ ?_)
   | (with_reducible refine LeO.bind ?_ (fun _ => ?_))
   | exact stockadelaw01_awake.mono _
   | exact LeO.none _
   | refine LeO.ite ?_ ?_
   | refine LeO.bind ?_ (fun _ => ?_)
set_option maxHeartbeats 8000000 in
set_option maxRecDepth 100000 in
theorem stockadelaw01_WordDivides.calls (k : Nat) (a0 : Bool) (a1 : Int) (a2 : Int) (r : Bool) (w : World) (hr_ : r = true) (h : stockadelaw01_WordDivides.f k a0 a1 a2 = some r) :
  Calls Try.prog 7 #[.bool a0, .int .u64 a1, .int .u64 a2] w fun e w' => e = .returned (.bool r) ∧ Drawn0 w w' := by
 have HRT := Aside0.mk hr_
 clear hr_
 have H : ((stockadelaw01_alu.f 3 a0 a1 a2).bind fun t230 => ((stockadelaw01_alu.f 9 a0 a1 a2).bind fun t231 => ((stockadelaw01_fit.f a0 a1).bind fun t232 => ((stockadelaw01_fit.f a0 a2).bind fun t233 => (if t233 = 0 then ((stockadelaw01_awake.f k).bind fun t234 => (if t234 = true then (if t230 = 0 then (some (t231 == t232)) else (some false)) else (some false))) else ((stockadelaw01_awake.f k).bind fun t235 => (if t235 = true then (if t231 < t233 then (if t230 ≤ t232 then ((stockadelaw01_alu.f 2 a0 t230 t233).bind fun t236 => ((stockadelaw01_alu.f 0 a0 t236 t231).bind fun t237 => (some (t237 == t232)))) else (some false)) else (some false)) else (some false)))))))) = some r := h
 clear h
 replace H := Option.bind_eq_some_iff.mp H; obtain ⟨t230, A40, H⟩ := H; try dsimp only at H
 have A4 := Aside0.mk A40
 clear A40
 replace H := Option.bind_eq_some_iff.mp H; obtain ⟨t231, A50, H⟩ := H; try dsimp only at H
 have A5 := Aside0.mk A50
 clear A50
 replace H := Option.bind_eq_some_iff.mp H; obtain ⟨t232, A60, H⟩ := H; try dsimp only at H
 have A6 := Aside0.mk A60
 clear A60
 replace H := Option.bind_eq_some_iff.mp H; obtain ⟨t233, A70, H⟩ := H; try dsimp only at H
 have A7 := Aside0.mk A70
 clear A70
 by_cases c8 : t233 = 0
 ·rw [if_pos c8] at H
  have c8b0 : (t233 == 0) = true := beq_iff_eq.mpr c8
  have c8b1 : (t233 != 0) = false := bne_eq_false_iff_eq.mpr c8
  clear c8
  replace H := Option.bind_eq_some_iff.mp H; obtain ⟨t234, A90, H⟩ := H; try dsimp only at H
  have A9 := Aside0.mk A90
  clear A90
  by_cases c10 : t234 = true
  ·subst c10
   replace H := sh_t H
   by_cases c11 : t230 = 0
   ·rw [if_pos c11] at H
    have c11b0 : (t230 == 0) = true := beq_iff_eq.mpr c11
    have c11b1 : (t230 != 0) = false := bne_eq_false_iff_eq.mpr c11
    clear c11
    obtain rfl := Option.some.inj H
    go_enter Try.func7, Try.ntmps7
    go_wp2_with (first | ((with_reducible refine gate_callee (f := 22) rfl ?_); refine sh_call (some 14) Try.func22 #[.int .i64 3, .bool a0, .int .u64 a1, .int .u64 a2] ?_; (with_reducible refine (stockadelaw01_alu.calls 3 a0 a1 a2 t230 _ A4.out).mono ?_); rintro e w' ⟨rfl, ⟨nd, rfl⟩⟩; refine ⟨_, rfl, ?_⟩) | ((with_reducible refine gate_callee (f := 22) rfl ?_); refine sh_call (some 18) Try.func22 #[.int .i64 9, .bool a0, .int .u64 a1, .int .u64 a2] ?_; (with_reducible refine (stockadelaw01_alu.calls 9 a0 a1 a2 t231 _ A5.out).mono ?_); rintro e w' ⟨rfl, ⟨nd, rfl⟩⟩; refine ⟨_, rfl, ?_⟩) | ((with_reducible refine gate_callee (f := 23) rfl ?_); refine sh_call (some 21) Try.func23 #[.bool a0, .int .u64 a1] ?_; (with_reducible refine (stockadelaw01_fit.calls a0 a1 t232 _ A6.out).mono ?_); rintro e w' ⟨rfl, ⟨nd, rfl⟩⟩; refine ⟨_, rfl, ?_⟩) | ((with_reducible refine gate_callee (f := 23) rfl ?_); refine sh_call (some 24) Try.func23 #[.bool a0, .int .u64 a2] ?_; (with_reducible refine (stockadelaw01_fit.calls a0 a2 t233 _ A7.out).mono ?_); rintro e w' ⟨rfl, ⟨nd, rfl⟩⟩; refine ⟨_, rfl, ?_⟩) | ((with_reducible refine gate_callee (f := 15) rfl ?_); refine sh_call (some 27) Try.func15 #[] ?_; (with_reducible refine (stockadelaw01_awake.calls k  true _ A9.out).mono ?_); rintro e w' ⟨rfl, ⟨nd, rfl⟩⟩; refine ⟨_, rfl, ?_⟩))
    go_ret
    exact ⟨by first | rfl | (simp; done) | (simp [*]; done), by repeat (first | exact Drawn0.refl _ | apply Drawn0.step)⟩
   ·rw [if_neg c11] at H
    have c11b0 : (t230 == 0) = false := beq_eq_false_iff_ne.mpr c11
    have c11b1 : (t230 != 0) = true := bne_iff_ne.mpr c11
    obtain rfl := Option.some.inj H
    exact absurd HRT.out (by simp)
  ·replace c10 := Bool.eq_false_iff.mpr c10
   subst c10
   replace H := sh_f H
   obtain rfl := Option.some.inj H
   exact absurd HRT.out (by simp)
 ·rw [if_neg c8] at H
  have c8b0 : (t233 == 0) = false := beq_eq_false_iff_ne.mpr c8
  have c8b1 : (t233 != 0) = true := bne_iff_ne.mpr c8
  replace H := Option.bind_eq_some_iff.mp H; obtain ⟨t235, A120, H⟩ := H; try dsimp only at H
  have A12 := Aside0.mk A120
  clear A120
  by_cases c13 : t235 = true
  ·subst c13
   replace H := sh_t H
   by_cases c14 : t231 < t233
   ·rw [if_pos c14] at H
    have c14b0 : decide (t231 < t233) = true := decide_eq_true c14
    clear c14
    by_cases c15 : t230 ≤ t232
    ·rw [if_pos c15] at H
     have c15b0 : decide (t230 ≤ t232) = true := decide_eq_true c15
     clear c15
     replace H := Option.bind_eq_some_iff.mp H; obtain ⟨t236, A160, H⟩ := H; try dsimp only at H
     have A16 := Aside0.mk A160
     clear A160
     replace H := Option.bind_eq_some_iff.mp H; obtain ⟨t237, A170, H⟩ := H; try dsimp only at H
     have A17 := Aside0.mk A170
     clear A170
     obtain rfl := Option.some.inj H
     go_enter Try.func7, Try.ntmps7
     go_wp2_with (first | ((with_reducible refine gate_callee (f := 22) rfl ?_); refine sh_call (some 14) Try.func22 #[.int .i64 3, .bool a0, .int .u64 a1, .int .u64 a2] ?_; (with_reducible refine (stockadelaw01_alu.calls 3 a0 a1 a2 t230 _ A4.out).mono ?_); rintro e w' ⟨rfl, ⟨nd, rfl⟩⟩; refine ⟨_, rfl, ?_⟩) | ((with_reducible refine gate_callee (f := 22) rfl ?_); refine sh_call (some 18) Try.func22 #[.int .i64 9, .bool a0, .int .u64 a1, .int .u64 a2] ?_; (with_reducible refine (stockadelaw01_alu.calls 9 a0 a1 a2 t231 _ A5.out).mono ?_); rintro e w' ⟨rfl, ⟨nd, rfl⟩⟩; refine ⟨_, rfl, ?_⟩) | ((with_reducible refine gate_callee (f := 23) rfl ?_); refine sh_call (some 21) Try.func23 #[.bool a0, .int .u64 a1] ?_; (with_reducible refine (stockadelaw01_fit.calls a0 a1 t232 _ A6.out).mono ?_); rintro e w' ⟨rfl, ⟨nd, rfl⟩⟩; refine ⟨_, rfl, ?_⟩) | ((with_reducible refine gate_callee (f := 23) rfl ?_); refine sh_call (some 24) Try.func23 #[.bool a0, .int .u64 a2] ?_; (with_reducible refine (stockadelaw01_fit.calls a0 a2 t233 _ A7.out).mono ?_); rintro e w' ⟨rfl, ⟨nd, rfl⟩⟩; refine ⟨_, rfl, ?_⟩) | ((with_reducible refine gate_callee (f := 15) rfl ?_); refine sh_call (some 37) Try.func15 #[] ?_; (with_reducible refine (stockadelaw01_awake.calls k  true _ A12.out).mono ?_); rintro e w' ⟨rfl, ⟨nd, rfl⟩⟩; refine ⟨_, rfl, ?_⟩) | (go_at_call 22; (with_reducible refine (stockadelaw01_alu.calls 2 a0 t230 t233 t236 _ A16.out).mono ?_); rintro e w' ⟨rfl, ⟨nd, rfl⟩⟩) | (go_at_call 22; (with_reducible refine (stockadelaw01_alu.calls 0 a0 t236 t231 t237 _ A17.out).mono ?_); rintro e w' ⟨rfl, ⟨nd, rfl⟩⟩))
     go_ret
     exact ⟨by first | rfl | (simp; done) | (simp [*]; done), by repeat (first | exact Drawn0.refl _ | apply Drawn0.step)⟩
    ·rw [if_neg c15] at H
     have c15b0 : decide (t230 ≤ t232) = false := decide_eq_false c15
     clear c15
     obtain rfl := Option.some.inj H
     exact absurd HRT.out (by simp)
   ·rw [if_neg c14] at H
    have c14b0 : decide (t231 < t233) = false := decide_eq_false c14
    clear c14
    obtain rfl := Option.some.inj H
    exact absurd HRT.out (by simp)
  ·replace c13 := Bool.eq_false_iff.mpr c13
   subst c13
   replace H := sh_f H
   obtain rfl := Option.some.inj H
   exact absurd HRT.out (by simp)

/-! ### stockadelaw01_size: function 24 -/
def stockadelaw01_size.f (a0 : Bool) : Option (Int) := if a0 = true then (some 64) else (some 32)
set_option maxHeartbeats 8000000 in
set_option maxRecDepth 100000 in
theorem stockadelaw01_size.calls (a0 : Bool) (r : Int) (w : World) (h : stockadelaw01_size.f a0 = some r) :
  Calls Try.prog 24 #[.bool a0] w fun e w' => e = .returned (.int .u64 r) ∧ Drawn0 w w' := by
 have H : (if a0 = true then (some 64) else (some 32)) = some r := h
 clear h
 by_cases c2 : a0 = true
 ·subst c2
  replace H := sh_t H
  obtain rfl := Option.some.inj H
  go_enter Try.func24, Try.ntmps24
  go_wp2
  go_ret
  exact ⟨by first | rfl | (simp; done) | (simp [*]; done), by repeat (first | exact Drawn0.refl _ | apply Drawn0.step)⟩
 ·replace c2 := Bool.eq_false_iff.mpr c2
  subst c2
  replace H := sh_f H
  obtain rfl := Option.some.inj H
  go_enter Try.func24, Try.ntmps24
  go_wp2
  go_ret
  exact ⟨by first | rfl | (simp; done) | (simp [*]; done), by repeat (first | exact Drawn0.refl _ | apply Drawn0.step)⟩

/-! ### stockadelaw01_WordShifts: function 8 -/
def stockadelaw01_WordShifts.j0 : Nat → Bool → Int → Int → Int → Int → Bool → Option (Bool)
 | 0, _, _, _, _, _, _ => none
 | k + 1, x0, x1, x7, x10, x11, x48 => if x48 = true then (some false) else ((stockadelaw01_fit.f x0 x1).bind fun t246 => ((stockadelaw01_size.f x0).bind fun t247 => (if 0 ≤ (IntKind.u64.wrap (t247 - 1)) then (if (shr .u64 t246 (IntKind.u64.wrap (t247 - 1))) = 0 then (some (x11 == x10)) else ((stockadelaw01_fit.f x0 (Go.bits .xor .u64 18446744073709551615 x1)).bind fun t248 => (if 0 ≤ x7 then ((stockadelaw01_fit.f x0 (Go.bits .xor .u64 18446744073709551615 (shr .u64 t248 x7))).bind fun t249 => (some (x11 == t249))) else (none)))) else (none))))
def stockadelaw01_WordShifts.f (k : Nat) (a0 : Bool) (a1 : Int) (a2 : Int) : Option (Bool) := (stockadelaw01_awake.f k).bind fun t238 => (if t238 = true then ((stockadelaw01_fit.f a0 a2).bind fun t239 => ((stockadelaw01_size.f a0).bind fun t240 => (if t240 = 0 then (none) else (if 0 ≤ (Int.tmod t239 t240) then ((stockadelaw01_alu.f 6 a0 a1 a2).bind fun t241 => ((stockadelaw01_alu.f 7 a0 a1 a2).bind fun t242 => ((stockadelaw01_alu.f 12 a0 a1 a2).bind fun t243 => ((stockadelaw01_alu.f 2 a0 a1 (shl .u64 1 (Int.tmod t239 t240))).bind fun t244 => (if t241 = t244 then ((stockadelaw01_alu.f 3 a0 a1 (shl .u64 1 (Int.tmod t239 t240))).bind fun t245 => (stockadelaw01_WordShifts.j0 k a0 a1 (Int.tmod t239 t240) t242 t243 (t242 != t245))) else (stockadelaw01_WordShifts.j0 k a0 a1 (Int.tmod t239 t240) t242 t243 true)))))) else (none))))) else (some false))
theorem stockadelaw01_WordShifts.mono_l : ∀ k, (∀ y0 y1 y2 y3 y4 y5, LeO (stockadelaw01_WordShifts.j0 k y0 y1 y2 y3 y4 y5) (stockadelaw01_WordShifts.j0 (k + 1) y0 y1 y2 y3 y4 y5))
 | 0 => fun _ _ _ _ _ _ r h => by simp [stockadelaw01_WordShifts.j0] at h
 | k + 1 => by
  have ih0 := stockadelaw01_WordShifts.mono_l k
  ·intro y0 y1 y2 y3 y4 y5
   unfold stockadelaw01_WordShifts.j0
   repeat' first
   | (with_reducible exact ih0 _ _ _ _ _ _)
   | (with_reducible exact stockadelaw01_awake.mono _)
   | (with_reducible exact LeO.refl _)
   | (with_reducible exact LeO.none _)
   | (with_reducible refine LeO.ite ?_ ?_)
   | (with_reducible refine LeO.bind ?_ (fun _ => ?_))
   | exact ih0 _ _ _ _ _ _
   | exact stockadelaw01_awake.mono _
   | exact LeO.none _
   | refine LeO.ite ?_ ?_
   | refine LeO.bind ?_ (fun _ => ?_)
theorem stockadelaw01_WordShifts.mono : ∀ a0 a1 a2 k, LeO (stockadelaw01_WordShifts.f k a0 a1 a2) (stockadelaw01_WordShifts.f (k + 1) a0 a1 a2) := by
 intro a0 a1 a2 k
 have ih0 := stockadelaw01_WordShifts.mono_l k
 unfold stockadelaw01_WordShifts.f
 repeat' first
   | (with_reducible exact ih0 _ _ _ _ _ _)
   | (with_reducible exact stockadelaw01_awake.mono _)
   | (with_reducible exact LeO.refl _)
   | (with_reducible exact LeO.none _)
   | (with_reducible refine LeO.ite ?_ ?_)
   | (with_reducible refine LeO.bind ?_ (fun _ => ?_))
   | exact ih0 _ _ _ _ _ _
   | exact stockadelaw01_awake.mono _
   | exact LeO.none _
   | refine LeO.ite ?_ ?_
   | refine LeO.bind ?_ (fun _ => ?_)
set_option maxHeartbeats 8000000 in
set_option maxRecDepth 100000 in
theorem stockadelaw01_WordShifts.calls (k : Nat) (a0 : Bool) (a1 : Int) (a2 : Int) (r : Bool) (w : World) (hr_ : r = true) (h : stockadelaw01_WordShifts.f k a0 a1 a2 = some r) :
  Calls Try.prog 8 #[.bool a0, .int .u64 a1, .int .u64 a2] w fun e w' => e = .returned (.bool r) ∧ Drawn0 w w' := by
 have HRT := Aside0.mk hr_
 clear hr_
 have H : ((stockadelaw01_awake.f k).bind fun t238 => (if t238 = true then ((stockadelaw01_fit.f a0 a2).bind fun t239 => ((stockadelaw01_size.f a0).bind fun t240 => (if t240 = 0 then (none) else (if 0 ≤ (Int.tmod t239 t240) then ((stockadelaw01_alu.f 6 a0 a1 a2).bind fun t241 => ((stockadelaw01_alu.f 7 a0 a1 a2).bind fun t242 => ((stockadelaw01_alu.f 12 a0 a1 a2).bind fun t243 => ((stockadelaw01_alu.f 2 a0 a1 (shl .u64 1 (Int.tmod t239 t240))).bind fun t244 => (if t241 = t244 then ((stockadelaw01_alu.f 3 a0 a1 (shl .u64 1 (Int.tmod t239 t240))).bind fun t245 => (stockadelaw01_WordShifts.j0 k a0 a1 (Int.tmod t239 t240) t242 t243 (t242 != t245))) else (stockadelaw01_WordShifts.j0 k a0 a1 (Int.tmod t239 t240) t242 t243 true)))))) else (none))))) else (some false))) = some r := h
 clear h
 replace H := Option.bind_eq_some_iff.mp H; obtain ⟨t238, A40, H⟩ := H; try dsimp only at H
 have A4 := Aside0.mk A40
 clear A40
 by_cases c5 : t238 = true
 ·subst c5
  replace H := sh_t H
  replace H := Option.bind_eq_some_iff.mp H; obtain ⟨t239, A60, H⟩ := H; try dsimp only at H
  have A6 := Aside0.mk A60
  clear A60
  replace H := Option.bind_eq_some_iff.mp H; obtain ⟨t240, A70, H⟩ := H; try dsimp only at H
  have A7 := Aside0.mk A70
  clear A70
  by_cases c8 : t240 = 0
  ·rw [if_pos c8] at H
   exact absurd H (by simp)
  ·rw [if_neg c8] at H
   have c8b0 : (t240 == 0) = false := beq_eq_false_iff_ne.mpr c8
   have c8b1 : (t240 != 0) = true := bne_iff_ne.mpr c8
   obtain ⟨ji9, hji9⟩ : ∃ j_ : Int, (Int.tmod t239 t240) = j_ := ⟨_, rfl⟩
   replace H : (if 0 ≤ (ji9) then ((stockadelaw01_alu.f 6 a0 a1 a2).bind fun t241 => ((stockadelaw01_alu.f 7 a0 a1 a2).bind fun t242 => ((stockadelaw01_alu.f 12 a0 a1 a2).bind fun t243 => ((stockadelaw01_alu.f 2 a0 a1 (shl .u64 1 (ji9))).bind fun t244 => (if t241 = t244 then ((stockadelaw01_alu.f 3 a0 a1 (shl .u64 1 (ji9))).bind fun t245 => (stockadelaw01_WordShifts.j0 k a0 a1 ji9 t242 t243 (t242 != t245))) else (stockadelaw01_WordShifts.j0 k a0 a1 ji9 t242 t243 true)))))) else (none)) = some r := by first | (rw [hji9] at H; exact H) | (simp only [hji9] at H ⊢; exact H)
   (try rw [hji9] at A4)
   (try rw [hji9] at A6)
   (try rw [hji9] at A7)
   by_cases c10 : 0 ≤ (ji9)
   ·rw [if_pos c10] at H
    have c10b0 := eq_true c10
    have c10b1 : decide (0 ≤ (ji9)) = true := decide_eq_true c10
    clear c10
    obtain ⟨ji11, hji11⟩ : ∃ j_ : Int, (shl .u64 1 (ji9)) = j_ := ⟨_, rfl⟩
    replace H : ((stockadelaw01_alu.f 6 a0 a1 a2).bind fun t241 => ((stockadelaw01_alu.f 7 a0 a1 a2).bind fun t242 => ((stockadelaw01_alu.f 12 a0 a1 a2).bind fun t243 => ((stockadelaw01_alu.f 2 a0 a1 (ji11)).bind fun t244 => (if t241 = t244 then ((stockadelaw01_alu.f 3 a0 a1 (ji11)).bind fun t245 => (stockadelaw01_WordShifts.j0 k a0 a1 ji9 t242 t243 (t242 != t245))) else (stockadelaw01_WordShifts.j0 k a0 a1 ji9 t242 t243 true)))))) = some r := by first | (rw [hji11] at H; exact H) | (simp only [hji11] at H ⊢; exact H)
    (try rw [hji11] at A4)
    (try rw [hji11] at A6)
    (try rw [hji11] at A7)
    have hji11_ : (IntKind.u64.wrap (1 * 2 ^ min (ji9).toNat 64)) = ji11 := hji11
    have hji11z : (ji9) ≤ 64 → (IntKind.u64.wrap (1 * 2 ^ (ji9).toNat)) = ji11 := shl_small hji11
    have hji11u : (IntKind.u64.wrap (2 ^ min (ji9).toNat 64)) = ji11 := by have h_ := hji11_; rw [Int.one_mul] at h_; exact h_
    have hji11v : (ji9) ≤ 64 → (IntKind.u64.wrap (2 ^ (ji9).toNat)) = ji11 := fun hle_ => by have h_ := hji11z hle_; rw [Int.one_mul] at h_; exact h_
    replace H := Option.bind_eq_some_iff.mp H; obtain ⟨t241, A120, H⟩ := H; try dsimp only at H
    have A12 := Aside0.mk A120
    clear A120
    replace H := Option.bind_eq_some_iff.mp H; obtain ⟨t242, A130, H⟩ := H; try dsimp only at H
    have A13 := Aside0.mk A130
    clear A130
    replace H := Option.bind_eq_some_iff.mp H; obtain ⟨t243, A140, H⟩ := H; try dsimp only at H
    have A14 := Aside0.mk A140
    clear A140
    have HC15 := Aside0.mk H
    clear H
    go_enter Try.func8, Try.ntmps8
    go_upto_region 6 with (first | ((with_reducible refine gate_callee (f := 15) rfl ?_); refine sh_call (some 13) Try.func15 #[] ?_; (with_reducible refine (stockadelaw01_awake.calls k  true _ A4.out).mono ?_); rintro e w' ⟨rfl, ⟨nd, rfl⟩⟩; refine ⟨_, rfl, ?_⟩) | ((with_reducible refine gate_callee (f := 23) rfl ?_); refine sh_call (some 17) Try.func23 #[.bool a0, .int .u64 a2] ?_; (with_reducible refine (stockadelaw01_fit.calls a0 a2 t239 _ A6.out).mono ?_); rintro e w' ⟨rfl, ⟨nd, rfl⟩⟩; refine ⟨_, rfl, ?_⟩) | ((with_reducible refine gate_callee (f := 24) rfl ?_); refine sh_call (some 19) Try.func24 #[.bool a0] ?_; (with_reducible refine (stockadelaw01_size.calls a0 t240 _ A7.out).mono ?_); rintro e w' ⟨rfl, ⟨nd, rfl⟩⟩; refine ⟨_, rfl, ?_⟩) | ((with_reducible refine gate_callee (f := 22) rfl ?_); refine sh_call (some 26) Try.func22 #[.int .i64 6, .bool a0, .int .u64 a1, .int .u64 a2] ?_; (with_reducible refine (stockadelaw01_alu.calls 6 a0 a1 a2 t241 _ A12.out).mono ?_); rintro e w' ⟨rfl, ⟨nd, rfl⟩⟩; refine ⟨_, rfl, ?_⟩) | ((with_reducible refine gate_callee (f := 22) rfl ?_); refine sh_call (some 30) Try.func22 #[.int .i64 7, .bool a0, .int .u64 a1, .int .u64 a2] ?_; (with_reducible refine (stockadelaw01_alu.calls 7 a0 a1 a2 t242 _ A13.out).mono ?_); rintro e w' ⟨rfl, ⟨nd, rfl⟩⟩; refine ⟨_, rfl, ?_⟩) | ((with_reducible refine gate_callee (f := 22) rfl ?_); refine sh_call (some 34) Try.func22 #[.int .i64 12, .bool a0, .int .u64 a1, .int .u64 a2] ?_; (with_reducible refine (stockadelaw01_alu.calls 12 a0 a1 a2 t243 _ A14.out).mono ?_); rintro e w' ⟨rfl, ⟨nd, rfl⟩⟩; refine ⟨_, rfl, ?_⟩))
    (try simp only [Act.put, List.setIfInBounds_toArray, List.set_cons_zero, List.set_cons_succ])
    go_cut [48] (fun v48 wc => ∃ (kq : Nat) (x48_14 : Bool), v48 = .bool x48_14 ∧ Aside0 (stockadelaw01_WordShifts.j0 kq a0 a1 ji9 t242 t243 x48_14 = some r) ∧ Aside0 (kq ≤ k) ∧ Drawn0 w wc)
    case first =>
     have H := HC15.out
     clear HC15
     replace H := Option.bind_eq_some_iff.mp H; obtain ⟨t244, A160, H⟩ := H; try dsimp only at H
     have A16 := Aside0.mk A160
     clear A160
     by_cases c17 : t241 = t244
     ·rw [if_pos c17] at H
      have c17b0 : (t241 == t244) = true := beq_iff_eq.mpr c17
      have c17b1 : (t241 != t244) = false := bne_eq_false_iff_eq.mpr c17
      clear c17
      (first | rw [c17b0] | (simp only [i64_w, i32_w]; rw [c17b0]) | skip)
      replace H := Option.bind_eq_some_iff.mp H; obtain ⟨t245, A180, H⟩ := H; try dsimp only at H
      have A18 := Aside0.mk A180
      clear A180
      have H' := Aside0.mk H
      clear H
      go_wp2_with (first | ((with_reducible refine gate_callee (f := 22) rfl ?_); refine goesL_ (some 39) rfl rfl Try.func22 (by kernel_rfl) rfl #[.int .i64 2, .bool a0, .int .u64 a1, .int .u64 ji11] rfl (by (try simp only [List.map_toArray, List.map_cons, List.map_nil]); first | done | (simp only [hji11]; rfl) | rfl | (simp only [List.length_drop, List.length_take]; rfl)) ?_; (with_reducible refine (stockadelaw01_alu.calls 2 a0 a1 ji11 t244 _ A16.out).mono ?_); rintro e w' ⟨rfl, ⟨nd, rfl⟩⟩; refine ⟨_, rfl, ?_⟩) | (go_at_call 22; (with_reducible refine (stockadelaw01_alu.calls 3 a0 a1 ji11 t245 _ A18.out).mono ?_); rintro e w' ⟨rfl, ⟨nd, rfl⟩⟩))
      go_meet
      case rel => exact ⟨_, ((t242 != t245)), eq_now, H', ⟨by first | omega | exact Nat.le_refl _⟩, by repeat (first | exact Drawn0.refl _ | apply Drawn0.step)⟩
     ·rw [if_neg c17] at H
      have c17b0 : (t241 == t244) = false := beq_eq_false_iff_ne.mpr c17
      have c17b1 : (t241 != t244) = true := bne_iff_ne.mpr c17
      (first | rw [c17b0] | (simp only [i64_w, i32_w]; rw [c17b0]) | skip)
      have H' := Aside0.mk H
      clear H
      go_wp2_with (first | ((with_reducible refine gate_callee (f := 22) rfl ?_); refine goesL_ (some 39) rfl rfl Try.func22 (by kernel_rfl) rfl #[.int .i64 2, .bool a0, .int .u64 a1, .int .u64 ji11] rfl (by (try simp only [List.map_toArray, List.map_cons, List.map_nil]); first | done | (simp only [hji11]; rfl) | rfl | (simp only [List.length_drop, List.length_take]; rfl)) ?_; (with_reducible refine (stockadelaw01_alu.calls 2 a0 a1 ji11 t244 _ A16.out).mono ?_); rintro e w' ⟨rfl, ⟨nd, rfl⟩⟩; refine ⟨_, rfl, ?_⟩))
      go_meet
      case rel => exact ⟨_, (true), eq_now, H', ⟨by first | omega | exact Nat.le_refl _⟩, by repeat (first | exact Drawn0.refl _ | apply Drawn0.step)⟩
    case rest =>
     clear HC15
     try clear c1
     try clear c2
     try clear p2
     try clear c5
     try clear c8
     try clear c8b0
     try clear c8b1
     try clear c10
     try clear c10b0
     try clear c10b1
     try clear c15
     try clear c17
     try clear c17b0
     try clear c17b1
     obtain ⟨kq, x48_14, rfl, HA, HJ14, ⟨mc14, rfl⟩⟩ := hcut
     cases kq with
     | zero => exact absurd HA.out (by simp [stockadelaw01_WordShifts.j0])
     | succ kj14 =>
      have H := HA.out
      clear HA
      simp only [stockadelaw01_WordShifts.j0] at H
      by_cases c19 : x48_14 = true
      ·subst c19
       replace H := sh_t H
       obtain rfl := Option.some.inj H
       exact absurd HRT.out (by simp)
      ·replace c19 := Bool.eq_false_iff.mpr c19
       subst c19
       replace H := sh_f H
       replace H := Option.bind_eq_some_iff.mp H; obtain ⟨t246, A200, H⟩ := H; try dsimp only at H
       have A20 := Aside0.mk A200
       clear A200
       replace H := Option.bind_eq_some_iff.mp H; obtain ⟨t247, A210, H⟩ := H; try dsimp only at H
       have A21 := Aside0.mk A210
       clear A210
       obtain ⟨ji22, hji22⟩ : ∃ j_ : Int, (IntKind.u64.wrap (t247 - 1)) = j_ := ⟨_, rfl⟩
       replace H : (if 0 ≤ (ji22) then (if (shr .u64 t246 (ji22)) = 0 then (some (t243 == t242)) else ((stockadelaw01_fit.f a0 (Go.bits .xor .u64 18446744073709551615 a1)).bind fun t248 => (if 0 ≤ ji9 then ((stockadelaw01_fit.f a0 (Go.bits .xor .u64 18446744073709551615 (shr .u64 t248 ji9))).bind fun t249 => (some (t243 == t249))) else (none)))) else (none)) = some r := by first | (rw [hji22] at H; exact H) | (simp only [hji22] at H ⊢; exact H)
       (try rw [hji22] at A20)
       (try rw [hji22] at A21)
       by_cases c23 : 0 ≤ (ji22)
       ·rw [if_pos c23] at H
        have c23b0 := eq_true c23
        have c23b1 : decide (0 ≤ (ji22)) = true := decide_eq_true c23
        clear c23
        obtain ⟨ji24, hji24⟩ : ∃ j_ : Int, (shr .u64 t246 (ji22)) = j_ := ⟨_, rfl⟩
        replace H : (if (ji24) = 0 then (some (t243 == t242)) else ((stockadelaw01_fit.f a0 (Go.bits .xor .u64 18446744073709551615 a1)).bind fun t248 => (if 0 ≤ ji9 then ((stockadelaw01_fit.f a0 (Go.bits .xor .u64 18446744073709551615 (shr .u64 t248 ji9))).bind fun t249 => (some (t243 == t249))) else (none)))) = some r := by first | (rw [hji24] at H; exact H) | (simp only [hji24] at H ⊢; exact H)
        (try rw [hji24] at A20)
        (try rw [hji24] at A21)
        have hji24_ : (t246 / 2 ^ min (ji22).toNat 64) = ji24 := hji24
        have hji24z : (ji22) ≤ 64 → (t246 / 2 ^ (ji22).toNat) = ji24 := shr_small hji24
        by_cases c25 : (ji24) = 0
        ·rw [if_pos c25] at H
         have c25b0 : ((ji24) == 0) = true := beq_iff_eq.mpr c25
         have c25b1 : ((ji24) != 0) = false := bne_eq_false_iff_eq.mpr c25
         clear c25
         obtain rfl := Option.some.inj H
         go_wp2_with (first | ((with_reducible refine gate_callee (f := 23) rfl ?_); refine sh_call (some 51) Try.func23 #[.bool a0, .int .u64 a1] ?_; (with_reducible refine (stockadelaw01_fit.calls a0 a1 t246 _ A20.out).mono ?_); rintro e w' ⟨rfl, ⟨nd, rfl⟩⟩; refine ⟨_, rfl, ?_⟩) | ((with_reducible refine gate_callee (f := 24) rfl ?_); refine sh_call (some 53) Try.func24 #[.bool a0] ?_; (with_reducible refine (stockadelaw01_size.calls a0 t247 _ A21.out).mono ?_); rintro e w' ⟨rfl, ⟨nd, rfl⟩⟩; refine ⟨_, rfl, ?_⟩))
         go_ret
         exact ⟨by first | rfl | (simp; done) | (simp only [← hji9, ← hji11, ← hji22, ← hji24] <;> (first | rfl | simp)) | (simp [*]; done), by repeat (first | exact Drawn0.refl _ | apply Drawn0.step)⟩
        ·rw [if_neg c25] at H
         have c25b0 : ((ji24) == 0) = false := beq_eq_false_iff_ne.mpr c25
         have c25b1 : ((ji24) != 0) = true := bne_iff_ne.mpr c25
         replace H := Option.bind_eq_some_iff.mp H; obtain ⟨t248, A260, H⟩ := H; try dsimp only at H
         have A26 := Aside0.mk A260
         clear A260
         by_cases c27 : 0 ≤ ji9
         ·rw [if_pos c27] at H
          have c27b0 := eq_true c27
          have c27b1 : decide (0 ≤ ji9) = true := decide_eq_true c27
          clear c27
          obtain ⟨ji28, hji28⟩ : ∃ j_ : Int, (shr .u64 t248 ji9) = j_ := ⟨_, rfl⟩
          replace H : ((stockadelaw01_fit.f a0 (Go.bits .xor .u64 18446744073709551615 (ji28))).bind fun t249 => (some (t243 == t249))) = some r := by first | (rw [hji28] at H; exact H) | (simp only [hji28] at H ⊢; exact H)
          (try rw [hji28] at A20)
          (try rw [hji28] at A21)
          (try rw [hji28] at A26)
          have hji28_ : (t248 / 2 ^ min ji9.toNat 64) = ji28 := hji28
          have hji28z : ji9 ≤ 64 → (t248 / 2 ^ ji9.toNat) = ji28 := shr_small hji28
          replace H := Option.bind_eq_some_iff.mp H; obtain ⟨t249, A290, H⟩ := H; try dsimp only at H
          have A29 := Aside0.mk A290
          clear A290
          obtain rfl := Option.some.inj H
          go_wp2_with (first | ((with_reducible refine gate_callee (f := 23) rfl ?_); refine sh_call (some 51) Try.func23 #[.bool a0, .int .u64 a1] ?_; (with_reducible refine (stockadelaw01_fit.calls a0 a1 t246 _ A20.out).mono ?_); rintro e w' ⟨rfl, ⟨nd, rfl⟩⟩; refine ⟨_, rfl, ?_⟩) | ((with_reducible refine gate_callee (f := 24) rfl ?_); refine sh_call (some 53) Try.func24 #[.bool a0] ?_; (with_reducible refine (stockadelaw01_size.calls a0 t247 _ A21.out).mono ?_); rintro e w' ⟨rfl, ⟨nd, rfl⟩⟩; refine ⟨_, rfl, ?_⟩) | ((with_reducible refine gate_callee (f := 23) rfl ?_); refine sh_call (some 63) Try.func23 #[.bool a0, .int .u64 (Go.bits .xor .u64 18446744073709551615 a1)] ?_; (with_reducible refine (stockadelaw01_fit.calls a0 (Go.bits .xor .u64 18446744073709551615 a1) t248 _ A26.out).mono ?_); rintro e w' ⟨rfl, ⟨nd, rfl⟩⟩; refine ⟨_, rfl, ?_⟩) | ((with_reducible refine gate_callee (f := 23) rfl ?_); refine goesL_ (some 70) rfl rfl Try.func23 (by kernel_rfl) rfl #[.bool a0, .int .u64 (Go.bits .xor .u64 18446744073709551615 (ji28))] rfl (by (try simp only [List.map_toArray, List.map_cons, List.map_nil]); first | done | (simp only [hji28]; rfl) | rfl | (simp only [List.length_drop, List.length_take]; rfl)) ?_; (with_reducible refine (stockadelaw01_fit.calls a0 (Go.bits .xor .u64 18446744073709551615 (ji28)) t249 _ A29.out).mono ?_); rintro e w' ⟨rfl, ⟨nd, rfl⟩⟩; refine ⟨_, rfl, ?_⟩))
          go_ret
          exact ⟨by first | rfl | (simp; done) | (simp only [← hji9, ← hji11, ← hji22, ← hji24, ← hji28] <;> (first | rfl | simp)) | (simp [*]; done), by repeat (first | exact Drawn0.refl _ | apply Drawn0.step)⟩
         ·rw [if_neg c27] at H
          exact absurd H (by simp)
       ·rw [if_neg c23] at H
        exact absurd H (by simp)
   ·rw [if_neg c10] at H
    exact absurd H (by simp)
 ·replace c5 := Bool.eq_false_iff.mpr c5
  subst c5
  replace H := sh_f H
  obtain rfl := Option.some.inj H
  exact absurd HRT.out (by simp)

end Go.Proofs.Ytgmgnlmhfhdfgaa.P
