/- Made by this session's driver over the kit's printer: for each Go function a Lean function with the same answers, and a proof that the Go call comes to these answers; no conditions but the ones each theorem names. -/
import Derived.Test.YtkojjjdeacdabaaDoorPx0
import Derived.Test.YtkojjjdeacdabaaDoorPx5
import Derived.Test.YtkojjjdeacdabaaDoorPx6
import Derived.Test.YtkojjjdeacdabaaDoorPx8
import Derived.Test.YtkojjjdeacdabaaDoorPx9
namespace Go.Proofs.YtkojjjdeacdabaaDoor.P
open Go.RowKit Go.Proofs.YtkojjjdeacdabaaDoorW.PrintWords Go.Proofs.YtkojjjdeacdabaaDoorW.PrintLast Go.Proofs.YtkojjjdeacdabaaDoorW.PrintMore
attribute [local go_sem] max2_int min2_int max_two min_two max_three min_three max_four min_four   -- for this text's walks alone
set_option linter.unusedVariables false
set_option linter.unusedSimpArgs false

/-! ### stockaderef02_Reads: function 25 -/
mutual
def stockaderef02_Reads.l0 : Nat → List Int → Int → Int → Int → Int → Int → Int → Int → Int → Int → Bool → Bool → Int → Int → Int → Int → Bool → Bool → Int → Int → Int → Int → Int → Option (List Int)
 | 0, _, _, _, _, _, _, _, _, _, _, _, _, _, _, _, _, _, _, _, _, _, _, _ => none
 | k + 1, x7, x8, x509000, x509001, x509002, x509003, x509004, x516000, x516001, x516002, x516003, x516004, x529000, x529001, x529002, x529003, x529004, x529005, x529006, x529007, x529008, x529009, x529010 => if x8 ≤ 10 then (if x529006 = 1 then (stockaderef02_Reads.j1 k x7 x8 true x509000 x509001 x509002 x509003 x509004 x516000 x516001 x516002 x516003 x516004 x529000 x529001 x529002 x529003 x529004 x529005 x529006 x529007 x529008 x529009 x529010) else (if x516000 = 1 then (if x516001 = 11 then (stockaderef02_Reads.j1 k x7 x8 (x516000 == 2) x509000 x509001 x509002 x509003 x509004 x516000 x516001 x516002 x516003 x516004 x529000 x529001 x529002 x529003 x529004 x529005 x529006 x529007 x529008 x529009 x529010) else (stockaderef02_Reads.j1 k x7 x8 true x509000 x509001 x509002 x509003 x509004 x516000 x516001 x516002 x516003 x516004 x529000 x529001 x529002 x529003 x529004 x529005 x529006 x529007 x529008 x529009 x529010)) else (stockaderef02_Reads.j1 k x7 x8 (x516000 == 2) x509000 x509001 x509002 x509003 x509004 x516000 x516001 x516002 x516003 x516004 x529000 x529001 x529002 x529003 x529004 x529005 x529006 x529007 x529008 x529009 x529010))) else (some x7)
def stockaderef02_Reads.j1 : Nat → List Int → Int → Bool → Int → Int → Int → Int → Int → Int → Int → Int → Bool → Bool → Int → Int → Int → Int → Bool → Bool → Int → Int → Int → Int → Int → Option (List Int)
 | 0, _, _, _, _, _, _, _, _, _, _, _, _, _, _, _, _, _, _, _, _, _, _, _, _ => none
 | k + 1, x7, x8, x9, x509000, x509001, x509002, x509003, x509004, x516000, x516001, x516002, x516003, x516004, x529000, x529001, x529002, x529003, x529004, x529005, x529006, x529007, x529008, x529009, x529010 => if x9 = true then (if (wrap64 (x509001)) = x8 then (stockaderef02_Reads.j2 k x7 x8 true x509000 x509001 x509002 x509003 x509004 x516000 x516001 x516002 x516003 x516004 x529000 x529001 x529002 x529003 x529004 x529005 x529006 x529007 x529008 x529009 x529010) else (if x529007 = 1 then (if (wrap64 (x509002)) = x8 then (stockaderef02_Reads.j2 k x7 x8 true x509000 x509001 x509002 x509003 x509004 x516000 x516001 x516002 x516003 x516004 x529000 x529001 x529002 x529003 x529004 x529005 x529006 x529007 x529008 x529009 x529010) else (if x516000 = 9 then (stockaderef02_Reads.j2 k x7 x8 (x8 == 0) x509000 x509001 x509002 x509003 x509004 x516000 x516001 x516002 x516003 x516004 x529000 x529001 x529002 x529003 x529004 x529005 x529006 x529007 x529008 x529009 x529010) else (stockaderef02_Reads.j2 k x7 x8 false x509000 x509001 x509002 x509003 x509004 x516000 x516001 x516002 x516003 x516004 x529000 x529001 x529002 x529003 x529004 x529005 x529006 x529007 x529008 x529009 x529010))) else (if x516000 = 9 then (stockaderef02_Reads.j2 k x7 x8 (x8 == 0) x509000 x509001 x509002 x509003 x509004 x516000 x516001 x516002 x516003 x516004 x529000 x529001 x529002 x529003 x529004 x529005 x529006 x529007 x529008 x529009 x529010) else (stockaderef02_Reads.j2 k x7 x8 false x509000 x509001 x509002 x509003 x509004 x516000 x516001 x516002 x516003 x516004 x529000 x529001 x529002 x529003 x529004 x529005 x529006 x529007 x529008 x529009 x529010)))) else (if x529007 = 1 then (if (wrap64 (x509002)) = x8 then (stockaderef02_Reads.j2 k x7 x8 true x509000 x509001 x509002 x509003 x509004 x516000 x516001 x516002 x516003 x516004 x529000 x529001 x529002 x529003 x529004 x529005 x529006 x529007 x529008 x529009 x529010) else (if x516000 = 9 then (stockaderef02_Reads.j2 k x7 x8 (x8 == 0) x509000 x509001 x509002 x509003 x509004 x516000 x516001 x516002 x516003 x516004 x529000 x529001 x529002 x529003 x529004 x529005 x529006 x529007 x529008 x529009 x529010) else (stockaderef02_Reads.j2 k x7 x8 false x509000 x509001 x509002 x509003 x509004 x516000 x516001 x516002 x516003 x516004 x529000 x529001 x529002 x529003 x529004 x529005 x529006 x529007 x529008 x529009 x529010))) else (if x516000 = 9 then (stockaderef02_Reads.j2 k x7 x8 (x8 == 0) x509000 x509001 x509002 x509003 x509004 x516000 x516001 x516002 x516003 x516004 x529000 x529001 x529002 x529003 x529004 x529005 x529006 x529007 x529008 x529009 x529010) else (stockaderef02_Reads.j2 k x7 x8 false x509000 x509001 x509002 x509003 x509004 x516000 x516001 x516002 x516003 x516004 x529000 x529001 x529002 x529003 x529004 x529005 x529006 x529007 x529008 x529009 x529010)))
def stockaderef02_Reads.j2 : Nat → List Int → Int → Bool → Int → Int → Int → Int → Int → Int → Int → Int → Bool → Bool → Int → Int → Int → Int → Bool → Bool → Int → Int → Int → Int → Int → Option (List Int)
 | 0, _, _, _, _, _, _, _, _, _, _, _, _, _, _, _, _, _, _, _, _, _, _, _, _ => none
 | k + 1, x7, x8, x72, x509000, x509001, x509002, x509003, x509004, x516000, x516001, x516002, x516003, x516004, x529000, x529001, x529002, x529003, x529004, x529005, x529006, x529007, x529008, x529009, x529010 => if x72 = true then (if x7.length < 17592186044416 then (stockaderef02_Reads.l0 k (x7 ++ [x8]) (wrap64 (x8 + 1)) x509000 x509001 x509002 x509003 x509004 x516000 x516001 x516002 x516003 x516004 x529000 x529001 x529002 x529003 x529004 x529005 x529006 x529007 x529008 x529009 x529010) else (none)) else (stockaderef02_Reads.l0 k x7 (wrap64 (x8 + 1)) x509000 x509001 x509002 x509003 x509004 x516000 x516001 x516002 x516003 x516004 x529000 x529001 x529002 x529003 x529004 x529005 x529006 x529007 x529008 x529009 x529010)
end
def stockaderef02_Reads.f (k : Nat) (a0_0 : Int) (a0_1 : Int) (a0_2 : Int) (a0_3 : Int) (a0_4 : Int) : Option (List Int) := (stockaderef02_Of.f k a0_0 a0_1 a0_2 a0_3 a0_4).bind fun bt509 => (if bt509.2.2.2.2.2 = 0 then ((stockaderef02_Find.f k a0_0 a0_1 a0_2 a0_3 a0_4).bind fun bt516 => (stockaderef02_Reads.l0 k ([] : List Int) 0 a0_0 a0_1 a0_2 a0_3 a0_4 bt509.1 bt509.2.1 bt509.2.2.1 bt509.2.2.2.1 bt509.2.2.2.2.1 bt516.1 bt516.2.1 bt516.2.2.1 bt516.2.2.2.1 bt516.2.2.2.2.1 bt516.2.2.2.2.2.1 bt516.2.2.2.2.2.2.1 bt516.2.2.2.2.2.2.2.1 bt516.2.2.2.2.2.2.2.2.1 bt516.2.2.2.2.2.2.2.2.2.1 bt516.2.2.2.2.2.2.2.2.2.2.1)) else (some ([] : List Int)))
theorem stockaderef02_Reads.mono_l : ∀ k, (∀ y0 y1 y2 y3 y4 y5 y6 y7 y8 y9 y10 y11 y12 y13 y14 y15 y16 y17 y18 y19 y20 y21 y22, LeO (stockaderef02_Reads.l0 k y0 y1 y2 y3 y4 y5 y6 y7 y8 y9 y10 y11 y12 y13 y14 y15 y16 y17 y18 y19 y20 y21 y22) (stockaderef02_Reads.l0 (k + 1) y0 y1 y2 y3 y4 y5 y6 y7 y8 y9 y10 y11 y12 y13 y14 y15 y16 y17 y18 y19 y20 y21 y22)) ∧ (∀ y0 y1 y2 y3 y4 y5 y6 y7 y8 y9 y10 y11 y12 y13 y14 y15 y16 y17 y18 y19 y20 y21 y22 y23, LeO (stockaderef02_Reads.j1 k y0 y1 y2 y3 y4 y5 y6 y7 y8 y9 y10 y11 y12 y13 y14 y15 y16 y17 y18 y19 y20 y21 y22 y23) (stockaderef02_Reads.j1 (k + 1) y0 y1 y2 y3 y4 y5 y6 y7 y8 y9 y10 y11 y12 y13 y14 y15 y16 y17 y18 y19 y20 y21 y22 y23)) ∧ (∀ y0 y1 y2 y3 y4 y5 y6 y7 y8 y9 y10 y11 y12 y13 y14 y15 y16 y17 y18 y19 y20 y21 y22 y23, LeO (stockaderef02_Reads.j2 k y0 y1 y2 y3 y4 y5 y6 y7 y8 y9 y10 y11 y12 y13 y14 y15 y16 y17 y18 y19 y20 y21 y22 y23) (stockaderef02_Reads.j2 (k + 1) y0 y1 y2 y3 y4 y5 y6 y7 y8 y9 y10 y11 y12 y13 y14 y15 y16 y17 y18 y19 y20 y21 y22 y23))
 | 0 => ⟨fun _ _ _ _ _ _ _ _ _ _ _ _ _ _ _ _ _ _ _ _ _ _ _ r h => by simp [stockaderef02_Reads.l0] at h, fun _ _ _ _ _ _ _ _ _ _ _ _ _ _ _ _ _ _ _ _ _ _ _ _ r h => by simp [stockaderef02_Reads.j1] at h, fun _ _ _ _ _ _ _ _ _ _ _ _ _ _ _ _ _ _ _ _ _ _ _ _ r h => by simp [stockaderef02_Reads.j2] at h⟩
 | k + 1 => by
  obtain ⟨ih0, ih1, ih2⟩ := stockaderef02_Reads.mono_l k
  refine ⟨?_, ?_, ?_⟩
  ·intro y0 y1 y2 y3 y4 y5 y6 y7 y8 y9 y10 y11 y12 y13 y14 y15 y16 y17 y18 y19 y20 y21 y22
   unfold stockaderef02_Reads.l0
   repeat' first
   | (with_reducible exact ih0 _ _ _ _ _ _ _ _ _ _ _ _ _ _ _ _ _ _ _ _ _ _ _)
   | (with_reducible exact ih1 _ _ _ _ _ _ _ _ _ _ _ _ _ _ _ _ _ _ _ _ _ _ _ _)
   | (with_reducible exact ih2 _ _ _ _ _ _ _ _ _ _ _ _ _ _ _ _ _ _ _ _ _ _ _ _)
   | (with_reducible exact stockaderef02_Find.mono _ _ _ _ _ _)
   | (with_reducible exact stockaderef02_Of.mono _ _ _ _ _ _)
   | (with_reducible exact LeO.refl _)
   | (with_reducible exact LeO.none _)
   | (with_reducible refine LeO.ite ?_ ?_)
   | (with_reducible refine LeO.bind ?_ (fun _ => ?_))
   | exact ih0 _ _ _ _ _ _ _ _ _ _ _ _ _ _ _ _ _ _ _ _ _ _ _
   | exact ih1 _ _ _ _ _ _ _ _ _ _ _ _ _ _ _ _ _ _ _ _ _ _ _ _
   | exact ih2 _ _ _ _ _ _ _ _ _ _ _ _ _ _ _ _ _ _ _ _ _ _ _ _
   | exact stockaderef02_Find.mono _ _ _ _ _ _
   | exact stockaderef02_Of.mono _ _ _ _ _ _
   | exact LeO.none _
   | refine LeO.ite ?_ ?_
   | refine LeO.bind ?_ (fun _ => ?_)
  ·intro y0 y1 y2 y3 y4 y5 y6 y7 y8 y9 y10 y11 y12 y13 y14 y15 y16 y17 y18 y19 y20 y21 y22 y23
   unfold stockaderef02_Reads.j1
   repeat' first
   | (with_reducible exact ih0 _ _ _ _ _ _ _ _ _ _ _ _ _ _ _ _ _ _ _ _ _ _ _)
   | (with_reducible exact ih1 _ _ _ _ _ _ _ _ _ _ _ _ _ _ _ _ _ _ _ _ _ _ _ _)
   | (with_reducible exact ih2 _ _ _ _ _ _ _ _ _ _ _ _ _ _ _ _ _ _ _ _ _ _ _ _)
   | (with_reducible exact stockaderef02_Find.mono _ _ _ _ _ _)
   | (with_reducible exact stockaderef02_Of.mono _ _ _ _ _ _)
   | (with_reducible exact LeO.refl _)
   | (with_reducible exact LeO.none _)
   | (with_reducible refine LeO.ite ?_ ?_)
   | (with_reducible refine LeO.bind ?_ (fun _ => ?_))
   | exact ih0 _ _ _ _ _ _ _ _ _ _ _ _ _ _ _ _ _ _ _ _ _ _ _
   | exact ih1 _ _ _ _ _ _ _ _ _ _ _ _ _ _ _ _ _ _ _ _ _ _ _ _
   | exact ih2 _ _ _ _ _ _ _ _ _ _ _ _ _ _ _ _ _ _ _ _ _ _ _ _
   | exact stockaderef02_Find.mono _ _ _ _ _ _
   | exact stockaderef02_Of.mono _ _ _ _ _ _
   | exact LeO.none _
   | refine LeO.ite ?_ ?_
   | refine LeO.bind ?_ (fun _ => ?_)
  ·intro y0 y1 y2 y3 y4 y5 y6 y7 y8 y9 y10 y11 y12 y13 y14 y15 y16 y17 y18 y19 y20 y21 y22 y23
   unfold stockaderef02_Reads.j2
   repeat' first
   | (with_reducible exact ih0 _ _ _ _ _ _ _ _ _ _ _ _ _ _ _ _ _ _ _ _ _ _ _)
   | (with_reducible exact ih1 _ _ _ _ _ _ _ _ _ _ _ _ _ _ _ _ _ _ _ _ _ _ _ _)
   | (with_reducible exact ih2 _ _ _ _ _ _ _ _ _ _ _ _ _ _ _ _ _ _ _ _ _ _ _ _)
   | (with_reducible exact stockaderef02_Find.mono _ _ _ _ _ _)
   | (with_reducible exact stockaderef02_Of.mono _ _ _ _ _ _)
   | (with_reducible exact LeO.refl _)
   | (with_reducible exact LeO.none _)
   | (with_reducible refine LeO.ite ?_ ?_)
   | (with_reducible refine LeO.bind ?_ (fun _ => ?_))
   | exact ih0 _ _ _ _ _ _ _ _ _ _ _ _ _ _ _ _ _ _ _ _ _ _ _
   | exact ih1 _ _ _ _ _ _ _ _ _ _ _ _ _ _ _ _ _ _ _ _ _ _ _ _
   | exact ih2 _ _ _ _ _ _ _ _ _ _ _ _ _ _ _ _ _ _ _ _ _ _ _ _
   | exact stockaderef02_Find.mono _ _ _ _ _ _
   | exact stockaderef02_Of.mono _ _ _ _ _ _
   | exact LeO.none _
   | refine LeO.ite ?_ ?_
   | refine LeO.bind ?_ (fun _ => ?_)
theorem stockaderef02_Reads.mono : ∀ a0 a1 a2 a3 a4 k, LeO (stockaderef02_Reads.f k a0 a1 a2 a3 a4) (stockaderef02_Reads.f (k + 1) a0 a1 a2 a3 a4) := by
 intro a0 a1 a2 a3 a4 k
 obtain ⟨ih0, ih1, ih2⟩ := stockaderef02_Reads.mono_l k
 unfold stockaderef02_Reads.f
 repeat' first
   | (with_reducible exact ih0 _ _ _ _ _ _ _ _ _ _ _ _ _ _ _ _ _ _ _ _ _ _ _)
   | (with_reducible exact ih1 _ _ _ _ _ _ _ _ _ _ _ _ _ _ _ _ _ _ _ _ _ _ _ _)
   | (with_reducible exact ih2 _ _ _ _ _ _ _ _ _ _ _ _ _ _ _ _ _ _ _ _ _ _ _ _)
   | (with_reducible exact stockaderef02_Find.mono _ _ _ _ _ _)
   | (with_reducible exact stockaderef02_Of.mono _ _ _ _ _ _)
   | (with_reducible exact LeO.refl _)
   | (with_reducible exact LeO.none _)
   | (with_reducible refine LeO.ite ?_ ?_)
   | (with_reducible refine LeO.bind ?_ (fun _ => ?_))
   | exact ih0 _ _ _ _ _ _ _ _ _ _ _ _ _ _ _ _ _ _ _ _ _ _ _
   | exact ih1 _ _ _ _ _ _ _ _ _ _ _ _ _ _ _ _ _ _ _ _ _ _ _ _
   | exact ih2 _ _ _ _ _ _ _ _ _ _ _ _ _ _ _ _ _ _ _ _ _ _ _ _
   | exact stockaderef02_Find.mono _ _ _ _ _ _
   | exact stockaderef02_Of.mono _ _ _ _ _ _
   | exact LeO.none _
   | refine LeO.ite ?_ ?_
   | refine LeO.bind ?_ (fun _ => ?_)
set_option maxHeartbeats 8000000 in
set_option maxRecDepth 100000 in
theorem stockaderef02_Reads.calls (k : Nat) (a0_0 : Int) (a0_1 : Int) (a0_2 : Int) (a0_3 : Int) (a0_4 : Int) (r : List Int) (w : World) (h : stockaderef02_Reads.f k a0_0 a0_1 a0_2 a0_3 a0_4 = some r) :
  Calls Tryd.prog 25 #[.agg #[.int .u8 a0_0, .int .u8 a0_1, .int .u8 a0_2, .int .i16 a0_3, .int .i32 a0_4]] w fun e w' => ∃ v0_ : Value, e = .returned (v0_) ∧ Kd.R (Kd.int .i64) 3 w' w.heap.size (fun _ => True) v0_ r ∧ Below w.heap.size w w' := by
 have hu24 := Tryd.underlying24
 have hu30 := Tryd.underlying30
 have hu65 := Tryd.underlying65
 have HB := Aside0.mk (Below.refl w.heap.size w)
 have H : ((stockaderef02_Of.f k a0_0 a0_1 a0_2 a0_3 a0_4).bind fun bt509 => (if bt509.2.2.2.2.2 = 0 then ((stockaderef02_Find.f k a0_0 a0_1 a0_2 a0_3 a0_4).bind fun bt516 => (stockaderef02_Reads.l0 k ([] : List Int) 0 a0_0 a0_1 a0_2 a0_3 a0_4 bt509.1 bt509.2.1 bt509.2.2.1 bt509.2.2.2.1 bt509.2.2.2.2.1 bt516.1 bt516.2.1 bt516.2.2.1 bt516.2.2.2.1 bt516.2.2.2.2.1 bt516.2.2.2.2.2.1 bt516.2.2.2.2.2.2.1 bt516.2.2.2.2.2.2.2.1 bt516.2.2.2.2.2.2.2.2.1 bt516.2.2.2.2.2.2.2.2.2.1 bt516.2.2.2.2.2.2.2.2.2.2.1)) else (some ([] : List Int)))) = some r := h
 clear h
 replace H := Option.bind_eq_some_iff.mp H; obtain ⟨⟨t509, t510, t511, t512, t513, t514⟩, A20, H⟩ := H; try dsimp only at H
 have A2 := Aside0.mk A20
 clear A20
 by_cases c3 : t514 = 0
 ·rw [if_pos c3] at H
  have c3b0 : (t514 == 0) = true := beq_iff_eq.mpr c3
  have c3b1 : (t514 != 0) = false := bne_eq_false_iff_eq.mpr c3
  clear c3
  replace H := Option.bind_eq_some_iff.mp H; obtain ⟨⟨t516, t517, t518, t519, t520, t521, t522, t523, t524, t525, t526, t527⟩, A40, H⟩ := H; try dsimp only at H
  have A4 := Aside0.mk A40
  clear A40
  have H' := Aside0.mk H
  clear H
  go_enter Tryd.func25, Tryd.ntmps25
  go_wp2_with (first | ((with_reducible refine gate_dst (N := 1) rfl ?_); refine sh_box 1 #[.int .u8 a0_0, .int .u8 a0_1, .int .u8 a0_2, .int .i16 a0_3, .int .i32 a0_4] 24 ?_; intro gb508 hg w5 hbox hb; have GE508 := sh_z (w := w) hg; replace HB := sh_b (w := w) hb; have BK508 := Aside0.mk (hbox); clear hb hbox hg; have hcz6 := blk_all5 BK508.out) | ((with_reducible refine gate_callee (f := 13) rfl ?_); refine sh_call (some 12) Tryd.func13 #[.agg #[.int .u8 a0_0, .int .u8 a0_1, .int .u8 a0_2, .int .i16 a0_3, .int .i32 a0_4]] ?_; (with_reducible refine (stockaderef02_Of.calls k a0_0 a0_1 a0_2 a0_3 a0_4 t509 t510 t511 t512 t513 t514 _ A2.out).mono ?_); rintro e w7 ⟨rfl, hb⟩; refine ⟨_, rfl, ?_⟩; replace BK508 := sh_k BK508 hb; replace HB := sh_b (w := w) hb; (try clear hb); (try clear hb2); (try clear hk); (try clear hi)) | ((with_reducible refine gate_dst (N := 3) rfl ?_); refine sh_box 3 #[.int .i64 0, .int .i64 0, .int .i64 0, .bool false, .bool false] 30 ?_; intro gb515 hg w8 hbox hb; have GE515 := sh_z (w := w) hg; have NB508_515 := sh_n BK508 hg; have NB515_508 := sh_s NB508_515; replace BK508 := sh_k BK508 hb; replace HB := sh_b (w := w) hb; have BK515 := Aside0.mk (hbox); clear hb hbox hg; have hnb9 := NB515_508.out; have hnc9 := NB508_515.out; have hcz10 := blk_all5 BK515.out; have hcz11 := blk_all5 BK508.out) | ((with_reducible refine gate_callee (f := 32) rfl ?_); refine sh_call (some 19) Tryd.func32 #[.agg #[.int .u8 a0_0, .int .u8 a0_1, .int .u8 a0_2, .int .i16 a0_3, .int .i32 a0_4]] ?_; (with_reducible refine (stockaderef02_Find.calls k a0_0 a0_1 a0_2 a0_3 a0_4 t516 t517 t518 t519 t520 t521 t522 t523 t524 t525 t526 t527 _ A4.out).mono ?_); rintro e w12 ⟨rfl, hb⟩; refine ⟨_, rfl, ?_⟩; replace BK508 := sh_kp (g := gb508) (t := 24) #[.int .u8 a0_0, .int .u8 a0_1, .int .u8 a0_2, .int .i16 a0_3, .int .i32 a0_4] hb; replace BK515 := sh_kp (g := gb515) (t := 30) #[.int .i64 t509, .int .i64 t510, .int .i64 t511, .bool t512, .bool t513] hb; replace HB := sh_b (w := w) hb; (try clear hb); (try clear hb2); (try clear hk); (try clear hi)) | ((with_reducible refine gate_dst (N := 5) rfl ?_); refine sh_box 5 #[.int .u8 0, .int .i64 0, .int .i64 0, .int .i64 0, .bool false, .bool false, .int .i64 0, .int .i64 0, .int .i64 0, .int .i64 0, .int .i64 0] 65 ?_; intro gb528 hg w13 hbox hb; have GE528 := sh_z (w := w) hg; have NB508_528 := sh_n BK508 hg; have NB515_528 := sh_n BK515 hg; have NB528_508 := sh_s NB508_528; have NB528_515 := sh_s NB515_528; replace BK508 := sh_k BK508 hb; replace BK515 := sh_k BK515 hb; replace HB := sh_b (w := w) hb; have BK528 := Aside0.mk (hbox); clear hb hbox hg; have hnb14 := NB528_508.out; have hnc14 := NB508_528.out; have hnb15 := NB528_515.out; have hnc15 := NB515_528.out; have hcz16 := blk_all11 BK528.out))
  go_loopg [7, 8] k (fun kq v7 v8 w' => ∃ (x7_1 : List Int) (x8_1 : Int), v8 = .int .i64 x8_1 ∧ Aside0 (stockaderef02_Reads.l0 kq x7_1 x8_1 a0_0 a0_1 a0_2 a0_3 a0_4 t509 t510 t511 t512 t513 t516 t517 t518 t519 t520 t521 t522 t523 t524 t525 t526 = some r) ∧ Aside0 (kq ≤ k) ∧ Aside0 (Kd.R (Kd.int .i64) 3 w' w.heap.size (fun _ => True) v7 x7_1) ∧ Aside0 (w'.heap[gb508]? = some (.cells #[.int .u8 a0_0, .int .u8 a0_1, .int .u8 a0_2, .int .i16 a0_3, .int .i32 a0_4] 24 (0, 0))) ∧ Aside0 (w'.heap[gb515]? = some (.cells #[.int .i64 t509, .int .i64 t510, .int .i64 t511, .bool t512, .bool t513] 30 (0, 0))) ∧ Aside0 (w'.heap[gb528]? = some (.cells #[.int .u8 t516, .int .i64 t517, .int .i64 t518, .int .i64 t519, .bool t520, .bool t521, .int .i64 t522, .int .i64 t523, .int .i64 t524, .int .i64 t525, .int .i64 t526] 65 (0, 0))) ∧ Aside0 (Below w.heap.size w w'))
  case atStart => exact ⟨(([] : List Int)), (0), eq_now, H', ⟨Nat.le_refl _⟩, ⟨by first | exact Kd.R_nil _ _ _ _ _ | exact Kd.N_nil _ _ _ _ _ | exact Kd.V_nil _ _ _ _ _ | exact Kd.Q_nil _ _ _ _ _ | exact Kd.S_nil _ _ _ _ _⟩, ⟨bk_now⟩, ⟨bk_now⟩, ⟨bk_now⟩, ⟨b_now⟩⟩
  case round =>
   clear H'
   try clear c1
   try clear c2
   try clear p2
   try clear c3
   try clear c3b0
   try clear c3b1
   try clear c9
   try clear c13
   try clear c14
   try clear c15
   try clear hcz10
   try clear hcz11
   try clear hcz16
   try clear hcz6
   obtain ⟨x7_1, x8_1, rfl, HA, HK1, HO_7, BK508, BK515, BK528, HB⟩ := hrel
   cases gk with
   | zero => exact absurd HA.out (by simp [stockaderef02_Reads.l0])
   | succ k1 =>
    have H := HA.out
    clear HA
    simp only [stockaderef02_Reads.l0] at H
    by_cases c17 : x8_1 ≤ 10
    ·rw [if_pos c17] at H
     have c17b0 : decide (x8_1 ≤ 10) = true := decide_eq_true c17
     clear c17
     have HC18 := Aside0.mk H
     clear H
     go_upto_region 9 with (fail)
     go_cut [9] (fun v9 wc => ∃ (kq : Nat) (x9_17 : Bool), v9 = .bool x9_17 ∧ Aside0 (stockaderef02_Reads.j1 kq x7_1 x8_1 x9_17 a0_0 a0_1 a0_2 a0_3 a0_4 t509 t510 t511 t512 t513 t516 t517 t518 t519 t520 t521 t522 t523 t524 t525 t526 = some r) ∧ Aside0 (kq ≤ k1) ∧ Aside0 (Kd.R (Kd.int .i64) 3 wc w.heap.size (fun _ => True) u7 x7_1) ∧ Aside0 (wc.heap[gb508]? = some (.cells #[.int .u8 a0_0, .int .u8 a0_1, .int .u8 a0_2, .int .i16 a0_3, .int .i32 a0_4] 24 (0, 0))) ∧ Aside0 (wc.heap[gb515]? = some (.cells #[.int .i64 t509, .int .i64 t510, .int .i64 t511, .bool t512, .bool t513] 30 (0, 0))) ∧ Aside0 (wc.heap[gb528]? = some (.cells #[.int .u8 t516, .int .i64 t517, .int .i64 t518, .int .i64 t519, .bool t520, .bool t521, .int .i64 t522, .int .i64 t523, .int .i64 t524, .int .i64 t525, .int .i64 t526] 65 (0, 0))) ∧ Aside0 (Below w.heap.size w wc))
     case first =>
      have H := HC18.out
      clear HC18
      by_cases c19 : t522 = 1
      ·rw [if_pos c19] at H
       have c19b0 : (t522 == 1) = true := beq_iff_eq.mpr c19
       have c19b1 : (t522 != 1) = false := bne_eq_false_iff_eq.mpr c19
       clear c19
       (first | rw [c19b0] | (simp only [i64_w, i32_w]; rw [c19b0]) | skip)
       have H' := Aside0.mk H
       clear H
       have hnb20 := NB528_508.out
       have hnc20 := NB508_528.out
       have hnb21 := NB528_515.out
       have hnc21 := NB515_528.out
       have hcz22 := blk_all11 BK528.out
       go_wp2
       go_meet
       case rel => exact ⟨_, (true), eq_now, H', ⟨by have := HK1.out; first | omega | exact Nat.le_refl _⟩, ⟨by (with_reducible repeat (first | apply Kd.R_alloc | apply Kd.R_drewN | apply Kd.R_drew)); exact HO_7.out⟩, ⟨bk_now⟩, ⟨bk_now⟩, ⟨bk_now⟩, ⟨b_now⟩⟩
      ·rw [if_neg c19] at H
       have c19b0 : (t522 == 1) = false := beq_eq_false_iff_ne.mpr c19
       have c19b1 : (t522 != 1) = true := bne_iff_ne.mpr c19
       (first | rw [c19b0] | (simp only [i64_w, i32_w]; rw [c19b0]) | skip)
       by_cases c23 : t509 = 1
       ·rw [if_pos c23] at H
        have c23b0 : (t509 == 1) = true := beq_iff_eq.mpr c23
        have c23b1 : (t509 != 1) = false := bne_eq_false_iff_eq.mpr c23
        clear c23
        by_cases c24 : t510 = 11
        ·rw [if_pos c24] at H
         have c24b0 : (t510 == 11) = true := beq_iff_eq.mpr c24
         have c24b1 : (t510 != 11) = false := bne_eq_false_iff_eq.mpr c24
         clear c24
         have H' := Aside0.mk H
         clear H
         have hnb25 := NB528_508.out
         have hnc25 := NB508_528.out
         have hnb26 := NB528_515.out
         have hnc26 := NB515_528.out
         have hcz27 := blk_all11 BK528.out
         have hnb28 := NB515_508.out
         have hnc28 := NB508_515.out
         have hcz29 := blk_all5 BK515.out
         go_wp2
         go_meet
         case rel => exact ⟨_, ((t509 == 2)), eq_now, H', ⟨by have := HK1.out; first | omega | exact Nat.le_refl _⟩, ⟨by (with_reducible repeat (first | apply Kd.R_alloc | apply Kd.R_drewN | apply Kd.R_drew)); exact HO_7.out⟩, ⟨bk_now⟩, ⟨bk_now⟩, ⟨bk_now⟩, ⟨b_now⟩⟩
        ·rw [if_neg c24] at H
         have c24b0 : (t510 == 11) = false := beq_eq_false_iff_ne.mpr c24
         have c24b1 : (t510 != 11) = true := bne_iff_ne.mpr c24
         have H' := Aside0.mk H
         clear H
         have hnb30 := NB528_508.out
         have hnc30 := NB508_528.out
         have hnb31 := NB528_515.out
         have hnc31 := NB515_528.out
         have hcz32 := blk_all11 BK528.out
         have hnb33 := NB515_508.out
         have hnc33 := NB508_515.out
         have hcz34 := blk_all5 BK515.out
         go_wp2
         go_meet
         case rel => exact ⟨_, (true), eq_now, H', ⟨by have := HK1.out; first | omega | exact Nat.le_refl _⟩, ⟨by (with_reducible repeat (first | apply Kd.R_alloc | apply Kd.R_drewN | apply Kd.R_drew)); exact HO_7.out⟩, ⟨bk_now⟩, ⟨bk_now⟩, ⟨bk_now⟩, ⟨b_now⟩⟩
       ·rw [if_neg c23] at H
        have c23b0 : (t509 == 1) = false := beq_eq_false_iff_ne.mpr c23
        have c23b1 : (t509 != 1) = true := bne_iff_ne.mpr c23
        have H' := Aside0.mk H
        clear H
        have hnb35 := NB528_508.out
        have hnc35 := NB508_528.out
        have hnb36 := NB528_515.out
        have hnc36 := NB515_528.out
        have hcz37 := blk_all11 BK528.out
        have hnb38 := NB515_508.out
        have hnc38 := NB508_515.out
        have hcz39 := blk_all5 BK515.out
        go_wp2
        go_meet
        case rel => exact ⟨_, ((t509 == 2)), eq_now, H', ⟨by have := HK1.out; first | omega | exact Nat.le_refl _⟩, ⟨by (with_reducible repeat (first | apply Kd.R_alloc | apply Kd.R_drewN | apply Kd.R_drew)); exact HO_7.out⟩, ⟨bk_now⟩, ⟨bk_now⟩, ⟨bk_now⟩, ⟨b_now⟩⟩
     case rest =>
      clear HC18
      try clear c1
      try clear c2
      try clear p2
      try clear c3
      try clear c3b0
      try clear c3b1
      try clear c9
      try clear c13
      try clear c14
      try clear c15
      try clear c17
      try clear c17b0
      try clear c19
      try clear c19b0
      try clear c19b1
      try clear c20
      try clear c21
      try clear c23
      try clear c23b0
      try clear c23b1
      try clear c24
      try clear c24b0
      try clear c24b1
      try clear c25
      try clear c26
      try clear c28
      try clear c30
      try clear c31
      try clear c32
      try clear c33
      try clear c35
      try clear c36
      try clear c38
      try clear hcz10
      try clear hcz11
      try clear hcz16
      try clear hcz22
      try clear hcz27
      try clear hcz29
      try clear hcz32
      try clear hcz34
      try clear hcz37
      try clear hcz39
      try clear hcz6
      try clear p2
      obtain ⟨kq, x9_17, rfl, HA, HJ17, HO_7, BK508, BK515, BK528, HB⟩ := hcut
      cases kq with
      | zero => exact absurd HA.out (by simp [stockaderef02_Reads.j1])
      | succ kj17 =>
       have H := HA.out
       clear HA
       simp only [stockaderef02_Reads.j1] at H
       have HC40 := Aside0.mk H
       clear H
       go_upto_region 10 with (fail)
       go_cut [72] (fun v72 wc => ∃ (kq : Nat) (x72_39 : Bool), v72 = .bool x72_39 ∧ Aside0 (stockaderef02_Reads.j2 kq x7_1 x8_1 x72_39 a0_0 a0_1 a0_2 a0_3 a0_4 t509 t510 t511 t512 t513 t516 t517 t518 t519 t520 t521 t522 t523 t524 t525 t526 = some r) ∧ Aside0 (kq ≤ kj17) ∧ Aside0 (Kd.R (Kd.int .i64) 3 wc w.heap.size (fun _ => True) u7 x7_1) ∧ Aside0 (wc.heap[gb508]? = some (.cells #[.int .u8 a0_0, .int .u8 a0_1, .int .u8 a0_2, .int .i16 a0_3, .int .i32 a0_4] 24 (0, 0))) ∧ Aside0 (wc.heap[gb515]? = some (.cells #[.int .i64 t509, .int .i64 t510, .int .i64 t511, .bool t512, .bool t513] 30 (0, 0))) ∧ Aside0 (wc.heap[gb528]? = some (.cells #[.int .u8 t516, .int .i64 t517, .int .i64 t518, .int .i64 t519, .bool t520, .bool t521, .int .i64 t522, .int .i64 t523, .int .i64 t524, .int .i64 t525, .int .i64 t526] 65 (0, 0))) ∧ Aside0 (Below w.heap.size w wc))
       case first =>
        have H := HC40.out
        clear HC40
        by_cases c41 : x9_17 = true
        ·subst c41
         replace H := sh_t H
         by_cases c42 : (wrap64 (a0_1)) = x8_1
         ·rw [if_pos c42] at H
          have c42b0 : ((wrap64 (a0_1)) == x8_1) = true := beq_iff_eq.mpr c42
          have c42b1 : ((wrap64 (a0_1)) != x8_1) = false := bne_eq_false_iff_eq.mpr c42
          clear c42
          (first | rw [c42b0] | (simp only [i64_w, i32_w]; rw [c42b0]) | skip)
          have H' := Aside0.mk H
          clear H
          have hnb43 := NB508_515.out
          have hnc43 := NB515_508.out
          have hnb44 := NB508_528.out
          have hnc44 := NB528_508.out
          have hcz45 := blk_all5 BK508.out
          go_wp2
          go_meet
          case rel => exact ⟨_, (true), eq_now, H', ⟨by have := HK1.out; have := HJ17.out; first | omega | exact Nat.le_refl _⟩, ⟨by (with_reducible repeat (first | apply Kd.R_alloc | apply Kd.R_drewN | apply Kd.R_drew)); exact HO_7.out⟩, ⟨bk_now⟩, ⟨bk_now⟩, ⟨bk_now⟩, ⟨b_now⟩⟩
         ·rw [if_neg c42] at H
          have c42b0 : ((wrap64 (a0_1)) == x8_1) = false := beq_eq_false_iff_ne.mpr c42
          have c42b1 : ((wrap64 (a0_1)) != x8_1) = true := bne_iff_ne.mpr c42
          (first | rw [c42b0] | (simp only [i64_w, i32_w]; rw [c42b0]) | skip)
          by_cases c46 : t523 = 1
          ·rw [if_pos c46] at H
           have c46b0 : (t523 == 1) = true := beq_iff_eq.mpr c46
           have c46b1 : (t523 != 1) = false := bne_eq_false_iff_eq.mpr c46
           clear c46
           by_cases c47 : (wrap64 (a0_2)) = x8_1
           ·rw [if_pos c47] at H
            have c47b0 : ((wrap64 (a0_2)) == x8_1) = true := beq_iff_eq.mpr c47
            have c47b1 : ((wrap64 (a0_2)) != x8_1) = false := bne_eq_false_iff_eq.mpr c47
            clear c47
            have H' := Aside0.mk H
            clear H
            have hnb48 := NB508_515.out
            have hnc48 := NB515_508.out
            have hnb49 := NB508_528.out
            have hnc49 := NB528_508.out
            have hcz50 := blk_all5 BK508.out
            have hnb51 := NB528_515.out
            have hnc51 := NB515_528.out
            have hcz52 := blk_all11 BK528.out
            go_wp2
            go_meet
            case rel => exact ⟨_, (true), eq_now, H', ⟨by have := HK1.out; have := HJ17.out; first | omega | exact Nat.le_refl _⟩, ⟨by (with_reducible repeat (first | apply Kd.R_alloc | apply Kd.R_drewN | apply Kd.R_drew)); exact HO_7.out⟩, ⟨bk_now⟩, ⟨bk_now⟩, ⟨bk_now⟩, ⟨b_now⟩⟩
           ·rw [if_neg c47] at H
            have c47b0 : ((wrap64 (a0_2)) == x8_1) = false := beq_eq_false_iff_ne.mpr c47
            have c47b1 : ((wrap64 (a0_2)) != x8_1) = true := bne_iff_ne.mpr c47
            by_cases c53 : t509 = 9
            ·rw [if_pos c53] at H
             have c53b0 : (t509 == 9) = true := beq_iff_eq.mpr c53
             have c53b1 : (t509 != 9) = false := bne_eq_false_iff_eq.mpr c53
             clear c53
             have H' := Aside0.mk H
             clear H
             have hnb54 := NB508_515.out
             have hnc54 := NB515_508.out
             have hnb55 := NB508_528.out
             have hnc55 := NB528_508.out
             have hcz56 := blk_all5 BK508.out
             have hnb57 := NB528_515.out
             have hnc57 := NB515_528.out
             have hcz58 := blk_all11 BK528.out
             have hcz59 := blk_all5 BK515.out
             go_wp2
             go_meet
             case rel => exact ⟨_, ((x8_1 == 0)), eq_now, H', ⟨by have := HK1.out; have := HJ17.out; first | omega | exact Nat.le_refl _⟩, ⟨by (with_reducible repeat (first | apply Kd.R_alloc | apply Kd.R_drewN | apply Kd.R_drew)); exact HO_7.out⟩, ⟨bk_now⟩, ⟨bk_now⟩, ⟨bk_now⟩, ⟨b_now⟩⟩
            ·rw [if_neg c53] at H
             have c53b0 : (t509 == 9) = false := beq_eq_false_iff_ne.mpr c53
             have c53b1 : (t509 != 9) = true := bne_iff_ne.mpr c53
             have H' := Aside0.mk H
             clear H
             have hnb60 := NB508_515.out
             have hnc60 := NB515_508.out
             have hnb61 := NB508_528.out
             have hnc61 := NB528_508.out
             have hcz62 := blk_all5 BK508.out
             have hnb63 := NB528_515.out
             have hnc63 := NB515_528.out
             have hcz64 := blk_all11 BK528.out
             have hcz65 := blk_all5 BK515.out
             go_wp2
             go_meet
             case rel => exact ⟨_, (false), eq_now, H', ⟨by have := HK1.out; have := HJ17.out; first | omega | exact Nat.le_refl _⟩, ⟨by (with_reducible repeat (first | apply Kd.R_alloc | apply Kd.R_drewN | apply Kd.R_drew)); exact HO_7.out⟩, ⟨bk_now⟩, ⟨bk_now⟩, ⟨bk_now⟩, ⟨b_now⟩⟩
          ·rw [if_neg c46] at H
           have c46b0 : (t523 == 1) = false := beq_eq_false_iff_ne.mpr c46
           have c46b1 : (t523 != 1) = true := bne_iff_ne.mpr c46
           by_cases c66 : t509 = 9
           ·rw [if_pos c66] at H
            have c66b0 : (t509 == 9) = true := beq_iff_eq.mpr c66
            have c66b1 : (t509 != 9) = false := bne_eq_false_iff_eq.mpr c66
            clear c66
            have H' := Aside0.mk H
            clear H
            have hnb67 := NB508_515.out
            have hnc67 := NB515_508.out
            have hnb68 := NB508_528.out
            have hnc68 := NB528_508.out
            have hcz69 := blk_all5 BK508.out
            have hnb70 := NB528_515.out
            have hnc70 := NB515_528.out
            have hcz71 := blk_all11 BK528.out
            have hcz72 := blk_all5 BK515.out
            go_wp2
            go_meet
            case rel => exact ⟨_, ((x8_1 == 0)), eq_now, H', ⟨by have := HK1.out; have := HJ17.out; first | omega | exact Nat.le_refl _⟩, ⟨by (with_reducible repeat (first | apply Kd.R_alloc | apply Kd.R_drewN | apply Kd.R_drew)); exact HO_7.out⟩, ⟨bk_now⟩, ⟨bk_now⟩, ⟨bk_now⟩, ⟨b_now⟩⟩
           ·rw [if_neg c66] at H
            have c66b0 : (t509 == 9) = false := beq_eq_false_iff_ne.mpr c66
            have c66b1 : (t509 != 9) = true := bne_iff_ne.mpr c66
            have H' := Aside0.mk H
            clear H
            have hnb73 := NB508_515.out
            have hnc73 := NB515_508.out
            have hnb74 := NB508_528.out
            have hnc74 := NB528_508.out
            have hcz75 := blk_all5 BK508.out
            have hnb76 := NB528_515.out
            have hnc76 := NB515_528.out
            have hcz77 := blk_all11 BK528.out
            have hcz78 := blk_all5 BK515.out
            go_wp2
            go_meet
            case rel => exact ⟨_, (false), eq_now, H', ⟨by have := HK1.out; have := HJ17.out; first | omega | exact Nat.le_refl _⟩, ⟨by (with_reducible repeat (first | apply Kd.R_alloc | apply Kd.R_drewN | apply Kd.R_drew)); exact HO_7.out⟩, ⟨bk_now⟩, ⟨bk_now⟩, ⟨bk_now⟩, ⟨b_now⟩⟩
        ·replace c41 := Bool.eq_false_iff.mpr c41
         subst c41
         replace H := sh_f H
         by_cases c79 : t523 = 1
         ·rw [if_pos c79] at H
          have c79b0 : (t523 == 1) = true := beq_iff_eq.mpr c79
          have c79b1 : (t523 != 1) = false := bne_eq_false_iff_eq.mpr c79
          clear c79
          by_cases c80 : (wrap64 (a0_2)) = x8_1
          ·rw [if_pos c80] at H
           have c80b0 : ((wrap64 (a0_2)) == x8_1) = true := beq_iff_eq.mpr c80
           have c80b1 : ((wrap64 (a0_2)) != x8_1) = false := bne_eq_false_iff_eq.mpr c80
           clear c80
           have H' := Aside0.mk H
           clear H
           have hnb81 := NB528_508.out
           have hnc81 := NB508_528.out
           have hnb82 := NB528_515.out
           have hnc82 := NB515_528.out
           have hcz83 := blk_all11 BK528.out
           have hnb84 := NB508_515.out
           have hnc84 := NB515_508.out
           have hcz85 := blk_all5 BK508.out
           go_wp2
           go_meet
           case rel => exact ⟨_, (true), eq_now, H', ⟨by have := HK1.out; have := HJ17.out; first | omega | exact Nat.le_refl _⟩, ⟨by (with_reducible repeat (first | apply Kd.R_alloc | apply Kd.R_drewN | apply Kd.R_drew)); exact HO_7.out⟩, ⟨bk_now⟩, ⟨bk_now⟩, ⟨bk_now⟩, ⟨b_now⟩⟩
          ·rw [if_neg c80] at H
           have c80b0 : ((wrap64 (a0_2)) == x8_1) = false := beq_eq_false_iff_ne.mpr c80
           have c80b1 : ((wrap64 (a0_2)) != x8_1) = true := bne_iff_ne.mpr c80
           by_cases c86 : t509 = 9
           ·rw [if_pos c86] at H
            have c86b0 : (t509 == 9) = true := beq_iff_eq.mpr c86
            have c86b1 : (t509 != 9) = false := bne_eq_false_iff_eq.mpr c86
            clear c86
            have H' := Aside0.mk H
            clear H
            have hnb87 := NB528_508.out
            have hnc87 := NB508_528.out
            have hnb88 := NB528_515.out
            have hnc88 := NB515_528.out
            have hcz89 := blk_all11 BK528.out
            have hnb90 := NB508_515.out
            have hnc90 := NB515_508.out
            have hcz91 := blk_all5 BK508.out
            have hcz92 := blk_all5 BK515.out
            go_wp2
            go_meet
            case rel => exact ⟨_, ((x8_1 == 0)), eq_now, H', ⟨by have := HK1.out; have := HJ17.out; first | omega | exact Nat.le_refl _⟩, ⟨by (with_reducible repeat (first | apply Kd.R_alloc | apply Kd.R_drewN | apply Kd.R_drew)); exact HO_7.out⟩, ⟨bk_now⟩, ⟨bk_now⟩, ⟨bk_now⟩, ⟨b_now⟩⟩
           ·rw [if_neg c86] at H
            have c86b0 : (t509 == 9) = false := beq_eq_false_iff_ne.mpr c86
            have c86b1 : (t509 != 9) = true := bne_iff_ne.mpr c86
            have H' := Aside0.mk H
            clear H
            have hnb93 := NB528_508.out
            have hnc93 := NB508_528.out
            have hnb94 := NB528_515.out
            have hnc94 := NB515_528.out
            have hcz95 := blk_all11 BK528.out
            have hnb96 := NB508_515.out
            have hnc96 := NB515_508.out
            have hcz97 := blk_all5 BK508.out
            have hcz98 := blk_all5 BK515.out
            go_wp2
            go_meet
            case rel => exact ⟨_, (false), eq_now, H', ⟨by have := HK1.out; have := HJ17.out; first | omega | exact Nat.le_refl _⟩, ⟨by (with_reducible repeat (first | apply Kd.R_alloc | apply Kd.R_drewN | apply Kd.R_drew)); exact HO_7.out⟩, ⟨bk_now⟩, ⟨bk_now⟩, ⟨bk_now⟩, ⟨b_now⟩⟩
         ·rw [if_neg c79] at H
          have c79b0 : (t523 == 1) = false := beq_eq_false_iff_ne.mpr c79
          have c79b1 : (t523 != 1) = true := bne_iff_ne.mpr c79
          by_cases c99 : t509 = 9
          ·rw [if_pos c99] at H
           have c99b0 : (t509 == 9) = true := beq_iff_eq.mpr c99
           have c99b1 : (t509 != 9) = false := bne_eq_false_iff_eq.mpr c99
           clear c99
           have H' := Aside0.mk H
           clear H
           have hnb100 := NB528_508.out
           have hnc100 := NB508_528.out
           have hnb101 := NB528_515.out
           have hnc101 := NB515_528.out
           have hcz102 := blk_all11 BK528.out
           have hnb103 := NB515_508.out
           have hnc103 := NB508_515.out
           have hcz104 := blk_all5 BK515.out
           go_wp2
           go_meet
           case rel => exact ⟨_, ((x8_1 == 0)), eq_now, H', ⟨by have := HK1.out; have := HJ17.out; first | omega | exact Nat.le_refl _⟩, ⟨by (with_reducible repeat (first | apply Kd.R_alloc | apply Kd.R_drewN | apply Kd.R_drew)); exact HO_7.out⟩, ⟨bk_now⟩, ⟨bk_now⟩, ⟨bk_now⟩, ⟨b_now⟩⟩
          ·rw [if_neg c99] at H
           have c99b0 : (t509 == 9) = false := beq_eq_false_iff_ne.mpr c99
           have c99b1 : (t509 != 9) = true := bne_iff_ne.mpr c99
           have H' := Aside0.mk H
           clear H
           have hnb105 := NB528_508.out
           have hnc105 := NB508_528.out
           have hnb106 := NB528_515.out
           have hnc106 := NB515_528.out
           have hcz107 := blk_all11 BK528.out
           have hnb108 := NB515_508.out
           have hnc108 := NB508_515.out
           have hcz109 := blk_all5 BK515.out
           go_wp2
           go_meet
           case rel => exact ⟨_, (false), eq_now, H', ⟨by have := HK1.out; have := HJ17.out; first | omega | exact Nat.le_refl _⟩, ⟨by (with_reducible repeat (first | apply Kd.R_alloc | apply Kd.R_drewN | apply Kd.R_drew)); exact HO_7.out⟩, ⟨bk_now⟩, ⟨bk_now⟩, ⟨bk_now⟩, ⟨b_now⟩⟩
       case rest =>
        clear HC40
        try clear c1
        try clear p2
        try clear c4
        try clear c5
        try clear c6
        try clear p6
        try clear c7
        try clear c8
        try clear c9
        try clear c10
        try clear c41
        try clear c42
        try clear c42b0
        try clear c42b1
        try clear c43
        try clear c44
        try clear c46
        try clear c46b0
        try clear c46b1
        try clear c47
        try clear c47b0
        try clear c47b1
        try clear c48
        try clear c49
        try clear c51
        try clear c53
        try clear c53b0
        try clear c53b1
        try clear c54
        try clear c55
        try clear c57
        try clear c60
        try clear c61
        try clear c63
        try clear p64
        try clear c66
        try clear c66b0
        try clear c66b1
        try clear c67
        try clear c68
        try clear c70
        try clear c73
        try clear c74
        try clear c76
        try clear c79
        try clear c79b0
        try clear c79b1
        try clear c80
        try clear c80b0
        try clear c80b1
        try clear c81
        try clear c82
        try clear c84
        try clear c86
        try clear c86b0
        try clear c86b1
        try clear c87
        try clear c88
        try clear c90
        try clear c93
        try clear c94
        try clear c96
        try clear c99
        try clear c99b0
        try clear c99b1
        try clear c100
        try clear c101
        try clear c103
        try clear c105
        try clear c106
        try clear c108
        try clear hcz102
        try clear hcz104
        try clear hcz107
        try clear hcz109
        try clear hcz45
        try clear hcz50
        try clear hcz52
        try clear hcz56
        try clear hcz58
        try clear hcz59
        try clear hcz62
        try clear hcz64
        try clear hcz65
        try clear hcz69
        try clear hcz71
        try clear hcz72
        try clear hcz75
        try clear hcz77
        try clear hcz78
        try clear hcz83
        try clear hcz85
        try clear hcz89
        try clear hcz91
        try clear hcz92
        try clear hcz95
        try clear hcz97
        try clear hcz98
        obtain ⟨kq, x72_39, rfl, HA, HJ39, HO_7, BK508, BK515, BK528, HB⟩ := hcut
        cases kq with
        | zero => exact absurd HA.out (by simp [stockaderef02_Reads.j2])
        | succ kj39 =>
         have H := HA.out
         clear HA
         simp only [stockaderef02_Reads.j2] at H
         by_cases c110 : x72_39 = true
         ·subst c110
          replace H := sh_t H
          by_cases c111 : x7_1.length < 17592186044416
          ·rw [if_pos c111] at H
           have LMc111 := Aside0.mk c111
           clear c111
           obtain ⟨y529, hy529⟩ : ∃ y_ : List Int, y_ = (x7_1 ++ [x8_1]) := ⟨_, rfl⟩
           replace H : (stockaderef02_Reads.l0 kj39 y529 (wrap64 (x8_1 + 1)) a0_0 a0_1 a0_2 a0_3 a0_4 t509 t510 t511 t512 t513 t516 t517 t518 t519 t520 t521 t522 t523 t524 t525 t526) = some r := by first | (rw [hy529]; with_reducible exact H) | (have H2_ := (Option.bind_some _ _).symm.trans H; rw [hy529]; with_reducible exact H2_) | (have H2_ := (Option.bind_some _ _).symm.trans H; with_reducible exact H2_) | with_reducible exact H | (rw [hy529]; exact H) | exact H
           have Ny529 := Aside0.mk hy529
           clear hy529
           have H' := Aside0.mk H
           clear H
           go_wp2_with (first | ((with_reducible refine gate_builtin (b := .append) (xs := #[.tmp 73, .tmp 75]) rfl ?_); at_builtin; refine Kd.R_append (Kd.int .i64) (w0 := w) w.heap.size rfl (.tmp 73) (.tmp 75) 54 3 (.int .i64 0) 8 rfl Tryd.underlying54 info3 rfl (by decide) (by omega) u7 x7_1 x8_1 [.int .i64 x8_1] (fun _ => True) (fun _ => False) rfl rfl ?aP (fun _ hk => hk.elim) ?aF ?aO ?aB ?aS ?aL ?_; (case aP => exact rfl); (case aB => exact b_now); (case aF => exact (fun _ _ => trivial)); (case aO => exact (by (with_reducible repeat (first | apply Kd.R_alloc | apply Kd.R_drewN | apply Kd.R_drew)); exact HO_7.out)); (case aS => exact (below_size b_now)); (case aL => have := LMc111.out; omega); intro v530 w112 ho hb hg hat; rw [← Ny529.out] at ho; have n0_ := Aside0.mk (blk_grown (g := gb508) (o := .cells #[.int .u8 a0_0, .int .u8 a0_1, .int .u8 a0_2, .int .i16 a0_3, .int .i32 a0_4] 24 (0, 0)) bk_now hg (Kd.R_ne HO_7.out BK508.out (by decide))); have n1_ := Aside0.mk (blk_grown (g := gb515) (o := .cells #[.int .i64 t509, .int .i64 t510, .int .i64 t511, .bool t512, .bool t513] 30 (0, 0)) bk_now hg (Kd.R_ne HO_7.out BK515.out (by decide))); have n2_ := Aside0.mk (blk_grown (g := gb528) (o := .cells #[.int .u8 t516, .int .i64 t517, .int .i64 t518, .int .i64 t519, .bool t520, .bool t521, .int .i64 t522, .int .i64 t523, .int .i64 t524, .int .i64 t525, .int .i64 t526] 65 (0, 0)) bk_now hg (Kd.R_ne HO_7.out BK528.out (by decide))); have n3_ := Aside0.mk (hb); have n4_ := Aside0.mk (ho); clear BK508; clear BK515; clear BK528; clear HB; clear HO_7; have BK508 := n0_; have BK515 := n1_; have BK528 := n2_; have HB := n3_; have HO531 := n4_; clear n0_ n1_ n2_ n3_ n4_; clear ho hb hg hat))
           go_roundg kj39
           case measure => have := HK1.out; have := HJ17.out; have := HJ39.out; omega
           case rel => exact ⟨(y529), (wrap64 (x8_1 + 1)), eq_now, H', ⟨by have := HK1.out; have := HJ17.out; have := HJ39.out; omega⟩, ⟨by (with_reducible repeat (first | apply Kd.R_alloc | apply Kd.R_drewN | apply Kd.R_drew)); exact HO531.out⟩, ⟨bk_now⟩, ⟨bk_now⟩, ⟨bk_now⟩, ⟨b_now⟩⟩
          ·rw [if_neg c111] at H
           exact absurd H (by simp)
         ·replace c110 := Bool.eq_false_iff.mpr c110
          subst c110
          replace H := sh_f H
          have H' := Aside0.mk H
          clear H
          go_wp2
          go_roundg kj39
          case measure => have := HK1.out; have := HJ17.out; have := HJ39.out; omega
          case rel => exact ⟨(x7_1), (wrap64 (x8_1 + 1)), eq_now, H', ⟨by have := HK1.out; have := HJ17.out; have := HJ39.out; omega⟩, ⟨by (with_reducible repeat (first | apply Kd.R_alloc | apply Kd.R_drewN | apply Kd.R_drew)); exact HO_7.out⟩, ⟨bk_now⟩, ⟨bk_now⟩, ⟨bk_now⟩, ⟨b_now⟩⟩
    ·rw [if_neg c17] at H
     have c17b0 : decide (x8_1 ≤ 10) = false := decide_eq_false c17
     clear c17
     obtain rfl := Option.some.inj H
     go_wp2
     go_ret
     exact ⟨_, ret_now, by (with_reducible repeat (first | apply Kd.R_alloc | apply Kd.R_drewN | apply Kd.R_drew)); exact HO_7.out, b_now⟩
 ·rw [if_neg c3] at H
  have c3b0 : (t514 == 0) = false := beq_eq_false_iff_ne.mpr c3
  have c3b1 : (t514 != 0) = true := bne_iff_ne.mpr c3
  obtain rfl := Option.some.inj H
  go_enter Tryd.func25, Tryd.ntmps25
  go_wp2_with (first | ((with_reducible refine gate_dst (N := 1) rfl ?_); refine sh_box 1 #[.int .u8 a0_0, .int .u8 a0_1, .int .u8 a0_2, .int .i16 a0_3, .int .i32 a0_4] 24 ?_; intro gb508 hg w113 hbox hb; have GE508 := sh_z (w := w) hg; replace HB := sh_b (w := w) hb; have BK508 := Aside0.mk (hbox); clear hb hbox hg; have hcz114 := blk_all5 BK508.out) | ((with_reducible refine gate_callee (f := 13) rfl ?_); refine sh_call (some 12) Tryd.func13 #[.agg #[.int .u8 a0_0, .int .u8 a0_1, .int .u8 a0_2, .int .i16 a0_3, .int .i32 a0_4]] ?_; (with_reducible refine (stockaderef02_Of.calls k a0_0 a0_1 a0_2 a0_3 a0_4 t509 t510 t511 t512 t513 t514 _ A2.out).mono ?_); rintro e w115 ⟨rfl, hb⟩; refine ⟨_, rfl, ?_⟩; replace BK508 := sh_k BK508 hb; replace HB := sh_b (w := w) hb; (try clear hb); (try clear hb2); (try clear hk); (try clear hi)) | ((with_reducible refine gate_dst (N := 3) rfl ?_); refine sh_box 3 #[.int .i64 0, .int .i64 0, .int .i64 0, .bool false, .bool false] 30 ?_; intro gb515 hg w116 hbox hb; have GE515 := sh_z (w := w) hg; have NB508_515 := sh_n BK508 hg; have NB515_508 := sh_s NB508_515; replace BK508 := sh_k BK508 hb; replace HB := sh_b (w := w) hb; have BK515 := Aside0.mk (hbox); clear hb hbox hg; have hnb117 := NB515_508.out; have hnc117 := NB508_515.out; have hcz118 := blk_all5 BK515.out))
  go_ret
  exact ⟨_, ret_now, by first | exact Kd.R_nil _ _ _ _ _ | exact Kd.N_nil _ _ _ _ _ | exact Kd.V_nil _ _ _ _ _ | exact Kd.Q_nil _ _ _ _ _ | exact Kd.S_nil _ _ _ _ _, b_now⟩

/-! ### insn_Writes: function 26 -/
def insn_Writes.f (k : Nat) (a0_0 : Int) (a0_1 : Int) (a0_2 : Int) (a0_3 : Int) (a0_4 : Int) : Option (Int) := (insn_Of.f k a0_0 a0_1 a0_2 a0_3 a0_4).bind fun bt533 => (if bt533.2.2.2.2.2 = 0 then (if bt533.1 = 8 then (some 0) else ((insn_fields.f k bt533.1 bt533.2.1 bt533.2.2.1 bt533.2.2.2.1 bt533.2.2.2.2.1).bind fun bt540 => (if bt540.2.1 = true then (some (wrap64 (a0_1))) else (some (-1))))) else (some (-1)))
theorem insn_Writes.mono : ∀ a0 a1 a2 a3 a4 k, LeO (insn_Writes.f k a0 a1 a2 a3 a4) (insn_Writes.f (k + 1) a0 a1 a2 a3 a4) := by
 intro a0 a1 a2 a3 a4 k
 unfold insn_Writes.f
 repeat' first
   | (with_reducible exact insn_Of.mono _ _ _ _ _ _)
   | (with_reducible exact insn_fields.mono _ _ _ _ _ _)
   | (with_reducible exact LeO.refl _)
   | (with_reducible exact LeO.none _)
   | (with_reducible refine LeO.ite ?_ ?_)
   | (with_reducible refine LeO.bind ?_ (fun _ => ?_))
   | exact insn_Of.mono _ _ _ _ _ _
   | exact insn_fields.mono _ _ _ _ _ _
   | exact LeO.none _
   | refine LeO.ite ?_ ?_
   | refine LeO.bind ?_ (fun _ => ?_)
set_option maxHeartbeats 8000000 in
set_option maxRecDepth 100000 in
theorem insn_Writes.calls (k : Nat) (a0_0 : Int) (a0_1 : Int) (a0_2 : Int) (a0_3 : Int) (a0_4 : Int) (r : Int) (w : World) (hrG0 : Kd.C (Kd.int .i64) w (some ⟨0, 0, none⟩) gl0.length gl0) (h : insn_Writes.f k a0_0 a0_1 a0_2 a0_3 a0_4 = some r) :
  Calls Tryd.prog 26 #[.agg #[.int .u8 a0_0, .int .u8 a0_1, .int .u8 a0_2, .int .i16 a0_3, .int .i32 a0_4]] w fun e w' => e = .returned (.int .i64 r) ∧ Below w.heap.size w w' := by
 have hu24 := Tryd.underlying24
 have hu26 := Tryd.underlying26
 have hu62 := Tryd.underlying62
 have fd62_1 : ∀ (W_ : World) (v0 v1 v2 v3 v4 : Value), (Instr.field 62 (.agg #[v0, v1, v2, v3, v4]) 1).run Tryd.prog W_ = .ok v1 W_ := by intros; kernel_rfl
 have HRG0 := Aside0.mk hrG0
 clear hrG0
 have HB := Aside0.mk (Below.refl w.heap.size w)
 have H : ((insn_Of.f k a0_0 a0_1 a0_2 a0_3 a0_4).bind fun bt533 => (if bt533.2.2.2.2.2 = 0 then (if bt533.1 = 8 then (some 0) else ((insn_fields.f k bt533.1 bt533.2.1 bt533.2.2.1 bt533.2.2.2.1 bt533.2.2.2.2.1).bind fun bt540 => (if bt540.2.1 = true then (some (wrap64 (a0_1))) else (some (-1))))) else (some (-1)))) = some r := h
 clear h
 replace H := Option.bind_eq_some_iff.mp H; obtain ⟨⟨t533, t534, t535, t536, t537, t538⟩, A20, H⟩ := H; try dsimp only at H
 have A2 := Aside0.mk A20
 clear A20
 by_cases c3 : t538 = 0
 ·rw [if_pos c3] at H
  have c3b0 : (t538 == 0) = true := beq_iff_eq.mpr c3
  have c3b1 : (t538 != 0) = false := bne_eq_false_iff_eq.mpr c3
  clear c3
  by_cases c4 : t533 = 8
  ·rw [if_pos c4] at H
   have c4b0 : (t533 == 8) = true := beq_iff_eq.mpr c4
   have c4b1 : (t533 != 8) = false := bne_eq_false_iff_eq.mpr c4
   clear c4
   obtain rfl := Option.some.inj H
   go_enter Tryd.func26, Tryd.ntmps26
   go_wp2_with (first | ((with_reducible refine gate_dst (N := 1) rfl ?_); refine sh_box 1 #[.int .u8 a0_0, .int .u8 a0_1, .int .u8 a0_2, .int .i16 a0_3, .int .i32 a0_4] 24 ?_; intro gb532 hg w5 hbox hb; have GE532 := sh_z (w := w) hg; replace HB := sh_b (w := w) hb; have BK532 := Aside0.mk (hbox); clear hb hbox hg; have hcz6 := blk_all5 BK532.out) | ((with_reducible refine gate_callee (f := 12) rfl ?_); refine sh_call (some 7) Tryd.func12 #[.agg #[.int .u8 a0_0, .int .u8 a0_1, .int .u8 a0_2, .int .i16 a0_3, .int .i32 a0_4]] ?_; (with_reducible refine (insn_Of.calls k a0_0 a0_1 a0_2 a0_3 a0_4 t533 t534 t535 t536 t537 t538 _ ?side1 A2.out).mono ?_); (case side1 => repeat (first | exact (Kd.C_below HRG0.out HB.out) | (with_reducible refine Kd.C_alloc ?_ _) | (with_reducible refine Kd.C_drewN ?_ _) | (with_reducible refine Kd.C_drew ?_))); rintro e w7 ⟨rfl, hb⟩; refine ⟨_, rfl, ?_⟩; replace BK532 := sh_k BK532 hb; replace HB := sh_b (w := w) hb; (try clear hb); (try clear hb2); (try clear hk); (try clear hi)) | ((with_reducible refine gate_dst (N := 3) rfl ?_); refine sh_box 3 #[.int .i64 0, .int .i64 0, .int .i64 0, .bool false, .bool false] 26 ?_; intro gb539 hg w8 hbox hb; have GE539 := sh_z (w := w) hg; have NB532_539 := sh_n BK532 hg; have NB539_532 := sh_s NB532_539; replace BK532 := sh_k BK532 hb; replace HB := sh_b (w := w) hb; have BK539 := Aside0.mk (hbox); clear hb hbox hg; have hnb9 := NB539_532.out; have hnc9 := NB532_539.out; have hcz10 := blk_all5 BK539.out))
   go_ret
   exact ⟨ret_now, b_now⟩
  ·rw [if_neg c4] at H
   have c4b0 : (t533 == 8) = false := beq_eq_false_iff_ne.mpr c4
   have c4b1 : (t533 != 8) = true := bne_iff_ne.mpr c4
   replace H := Option.bind_eq_some_iff.mp H; obtain ⟨⟨t540, t541, t542, t543, t544⟩, A110, H⟩ := H; try dsimp only at H
   have A11 := Aside0.mk A110
   clear A110
   by_cases c12 : t541 = true
   ·subst c12
    replace H := sh_t H
    obtain rfl := Option.some.inj H
    go_enter Tryd.func26, Tryd.ntmps26
    go_wp2_with (first | ((with_reducible refine gate_dst (N := 1) rfl ?_); refine sh_box 1 #[.int .u8 a0_0, .int .u8 a0_1, .int .u8 a0_2, .int .i16 a0_3, .int .i32 a0_4] 24 ?_; intro gb532 hg w13 hbox hb; have GE532 := sh_z (w := w) hg; replace HB := sh_b (w := w) hb; have BK532 := Aside0.mk (hbox); clear hb hbox hg; have hcz14 := blk_all5 BK532.out) | ((with_reducible refine gate_callee (f := 12) rfl ?_); refine sh_call (some 7) Tryd.func12 #[.agg #[.int .u8 a0_0, .int .u8 a0_1, .int .u8 a0_2, .int .i16 a0_3, .int .i32 a0_4]] ?_; (with_reducible refine (insn_Of.calls k a0_0 a0_1 a0_2 a0_3 a0_4 t533 t534 t535 t536 t537 t538 _ ?side1 A2.out).mono ?_); (case side1 => repeat (first | exact (Kd.C_below HRG0.out HB.out) | (with_reducible refine Kd.C_alloc ?_ _) | (with_reducible refine Kd.C_drewN ?_ _) | (with_reducible refine Kd.C_drew ?_))); rintro e w15 ⟨rfl, hb⟩; refine ⟨_, rfl, ?_⟩; replace BK532 := sh_k BK532 hb; replace HB := sh_b (w := w) hb; (try clear hb); (try clear hb2); (try clear hk); (try clear hi)) | ((with_reducible refine gate_dst (N := 3) rfl ?_); refine sh_box 3 #[.int .i64 0, .int .i64 0, .int .i64 0, .bool false, .bool false] 26 ?_; intro gb539 hg w16 hbox hb; have GE539 := sh_z (w := w) hg; have NB532_539 := sh_n BK532 hg; have NB539_532 := sh_s NB532_539; replace BK532 := sh_k BK532 hb; replace HB := sh_b (w := w) hb; have BK539 := Aside0.mk (hbox); clear hb hbox hg; have hnb17 := NB539_532.out; have hnc17 := NB532_539.out; have hcz18 := blk_all5 BK539.out) | ((with_reducible refine gate_callee (f := 31) rfl ?_); refine sh_call (some 19) Tryd.func31 #[.agg #[.int .i64 t533, .int .i64 t534, .int .i64 t535, .bool t536, .bool t537]] ?_; (with_reducible refine (insn_fields.calls k t533 t534 t535 t536 t537 t540 true t542 t543 t544 _ A11.out).mono ?_); rintro e w19 ⟨rfl, hb⟩; refine ⟨_, rfl, ?_⟩; replace BK532 := sh_kp (g := gb532) (t := 24) #[.int .u8 a0_0, .int .u8 a0_1, .int .u8 a0_2, .int .i16 a0_3, .int .i32 a0_4] hb; replace BK539 := sh_kp (g := gb539) (t := 26) #[.int .i64 t533, .int .i64 t534, .int .i64 t535, .bool t536, .bool t537] hb; replace HB := sh_b (w := w) hb; (try clear hb); (try clear hb2); (try clear hk); (try clear hi); have hcz20 := blk_all5 BK532.out))
    go_ret
    exact ⟨ret_now, b_now⟩
   ·replace c12 := Bool.eq_false_iff.mpr c12
    subst c12
    replace H := sh_f H
    obtain rfl := Option.some.inj H
    go_enter Tryd.func26, Tryd.ntmps26
    go_wp2_with (first | ((with_reducible refine gate_dst (N := 1) rfl ?_); refine sh_box 1 #[.int .u8 a0_0, .int .u8 a0_1, .int .u8 a0_2, .int .i16 a0_3, .int .i32 a0_4] 24 ?_; intro gb532 hg w21 hbox hb; have GE532 := sh_z (w := w) hg; replace HB := sh_b (w := w) hb; have BK532 := Aside0.mk (hbox); clear hb hbox hg; have hcz22 := blk_all5 BK532.out) | ((with_reducible refine gate_callee (f := 12) rfl ?_); refine sh_call (some 7) Tryd.func12 #[.agg #[.int .u8 a0_0, .int .u8 a0_1, .int .u8 a0_2, .int .i16 a0_3, .int .i32 a0_4]] ?_; (with_reducible refine (insn_Of.calls k a0_0 a0_1 a0_2 a0_3 a0_4 t533 t534 t535 t536 t537 t538 _ ?side1 A2.out).mono ?_); (case side1 => repeat (first | exact (Kd.C_below HRG0.out HB.out) | (with_reducible refine Kd.C_alloc ?_ _) | (with_reducible refine Kd.C_drewN ?_ _) | (with_reducible refine Kd.C_drew ?_))); rintro e w23 ⟨rfl, hb⟩; refine ⟨_, rfl, ?_⟩; replace BK532 := sh_k BK532 hb; replace HB := sh_b (w := w) hb; (try clear hb); (try clear hb2); (try clear hk); (try clear hi)) | ((with_reducible refine gate_dst (N := 3) rfl ?_); refine sh_box 3 #[.int .i64 0, .int .i64 0, .int .i64 0, .bool false, .bool false] 26 ?_; intro gb539 hg w24 hbox hb; have GE539 := sh_z (w := w) hg; have NB532_539 := sh_n BK532 hg; have NB539_532 := sh_s NB532_539; replace BK532 := sh_k BK532 hb; replace HB := sh_b (w := w) hb; have BK539 := Aside0.mk (hbox); clear hb hbox hg; have hnb25 := NB539_532.out; have hnc25 := NB532_539.out; have hcz26 := blk_all5 BK539.out) | ((with_reducible refine gate_callee (f := 31) rfl ?_); refine sh_call (some 19) Tryd.func31 #[.agg #[.int .i64 t533, .int .i64 t534, .int .i64 t535, .bool t536, .bool t537]] ?_; (with_reducible refine (insn_fields.calls k t533 t534 t535 t536 t537 t540 false t542 t543 t544 _ A11.out).mono ?_); rintro e w27 ⟨rfl, hb⟩; refine ⟨_, rfl, ?_⟩; replace BK532 := sh_kp (g := gb532) (t := 24) #[.int .u8 a0_0, .int .u8 a0_1, .int .u8 a0_2, .int .i16 a0_3, .int .i32 a0_4] hb; replace BK539 := sh_kp (g := gb539) (t := 26) #[.int .i64 t533, .int .i64 t534, .int .i64 t535, .bool t536, .bool t537] hb; replace HB := sh_b (w := w) hb; (try clear hb); (try clear hb2); (try clear hk); (try clear hi)))
    go_ret
    exact ⟨ret_now, b_now⟩
 ·rw [if_neg c3] at H
  have c3b0 : (t538 == 0) = false := beq_eq_false_iff_ne.mpr c3
  have c3b1 : (t538 != 0) = true := bne_iff_ne.mpr c3
  obtain rfl := Option.some.inj H
  go_enter Tryd.func26, Tryd.ntmps26
  go_wp2_with (first | ((with_reducible refine gate_dst (N := 1) rfl ?_); refine sh_box 1 #[.int .u8 a0_0, .int .u8 a0_1, .int .u8 a0_2, .int .i16 a0_3, .int .i32 a0_4] 24 ?_; intro gb532 hg w28 hbox hb; have GE532 := sh_z (w := w) hg; replace HB := sh_b (w := w) hb; have BK532 := Aside0.mk (hbox); clear hb hbox hg; have hcz29 := blk_all5 BK532.out) | ((with_reducible refine gate_callee (f := 12) rfl ?_); refine sh_call (some 7) Tryd.func12 #[.agg #[.int .u8 a0_0, .int .u8 a0_1, .int .u8 a0_2, .int .i16 a0_3, .int .i32 a0_4]] ?_; (with_reducible refine (insn_Of.calls k a0_0 a0_1 a0_2 a0_3 a0_4 t533 t534 t535 t536 t537 t538 _ ?side1 A2.out).mono ?_); (case side1 => repeat (first | exact (Kd.C_below HRG0.out HB.out) | (with_reducible refine Kd.C_alloc ?_ _) | (with_reducible refine Kd.C_drewN ?_ _) | (with_reducible refine Kd.C_drew ?_))); rintro e w30 ⟨rfl, hb⟩; refine ⟨_, rfl, ?_⟩; replace BK532 := sh_k BK532 hb; replace HB := sh_b (w := w) hb; (try clear hb); (try clear hb2); (try clear hk); (try clear hi)) | ((with_reducible refine gate_dst (N := 3) rfl ?_); refine sh_box 3 #[.int .i64 0, .int .i64 0, .int .i64 0, .bool false, .bool false] 26 ?_; intro gb539 hg w31 hbox hb; have GE539 := sh_z (w := w) hg; have NB532_539 := sh_n BK532 hg; have NB539_532 := sh_s NB532_539; replace BK532 := sh_k BK532 hb; replace HB := sh_b (w := w) hb; have BK539 := Aside0.mk (hbox); clear hb hbox hg; have hnb32 := NB539_532.out; have hnc32 := NB532_539.out; have hcz33 := blk_all5 BK539.out))
  go_ret
  exact ⟨ret_now, b_now⟩

/-! ### stockaderef02_Writes: function 27 -/
def stockaderef02_Writes.f (k : Nat) (a0_0 : Int) (a0_1 : Int) (a0_2 : Int) (a0_3 : Int) (a0_4 : Int) : Option (Int) := (stockaderef02_Of.f k a0_0 a0_1 a0_2 a0_3 a0_4).bind fun bt546 => (if bt546.2.2.2.2.2 = 0 then ((stockaderef02_Find.f k a0_0 a0_1 a0_2 a0_3 a0_4).bind fun bt553 => (if bt546.1 = 8 then (some 0) else (if bt553.2.2.2.2.2.2.1 = 2 then (some (wrap64 (a0_1))) else (some (-1))))) else (some (-1)))
theorem stockaderef02_Writes.mono : ∀ a0 a1 a2 a3 a4 k, LeO (stockaderef02_Writes.f k a0 a1 a2 a3 a4) (stockaderef02_Writes.f (k + 1) a0 a1 a2 a3 a4) := by
 intro a0 a1 a2 a3 a4 k
 unfold stockaderef02_Writes.f
 repeat' first
   | (with_reducible exact stockaderef02_Find.mono _ _ _ _ _ _)
   | (with_reducible exact stockaderef02_Of.mono _ _ _ _ _ _)
   | (with_reducible exact LeO.refl _)
   | (with_reducible exact LeO.none _)
   | (with_reducible refine LeO.ite ?_ ?_)
   | (with_reducible refine LeO.bind ?_ (fun _ => ?_))
   | exact stockaderef02_Find.mono _ _ _ _ _ _
   | exact stockaderef02_Of.mono _ _ _ _ _ _
   | exact LeO.none _
   | refine LeO.ite ?_ ?_
   | refine LeO.bind ?_ (fun _ => ?_)
set_option maxHeartbeats 8000000 in
set_option maxRecDepth 100000 in
theorem stockaderef02_Writes.calls (k : Nat) (a0_0 : Int) (a0_1 : Int) (a0_2 : Int) (a0_3 : Int) (a0_4 : Int) (r : Int) (w : World) (h : stockaderef02_Writes.f k a0_0 a0_1 a0_2 a0_3 a0_4 = some r) :
  Calls Tryd.prog 27 #[.agg #[.int .u8 a0_0, .int .u8 a0_1, .int .u8 a0_2, .int .i16 a0_3, .int .i32 a0_4]] w fun e w' => e = .returned (.int .i64 r) ∧ Below w.heap.size w w' := by
 have hu24 := Tryd.underlying24
 have hu30 := Tryd.underlying30
 have hu65 := Tryd.underlying65
 have HB := Aside0.mk (Below.refl w.heap.size w)
 have H : ((stockaderef02_Of.f k a0_0 a0_1 a0_2 a0_3 a0_4).bind fun bt546 => (if bt546.2.2.2.2.2 = 0 then ((stockaderef02_Find.f k a0_0 a0_1 a0_2 a0_3 a0_4).bind fun bt553 => (if bt546.1 = 8 then (some 0) else (if bt553.2.2.2.2.2.2.1 = 2 then (some (wrap64 (a0_1))) else (some (-1))))) else (some (-1)))) = some r := h
 clear h
 replace H := Option.bind_eq_some_iff.mp H; obtain ⟨⟨t546, t547, t548, t549, t550, t551⟩, A20, H⟩ := H; try dsimp only at H
 have A2 := Aside0.mk A20
 clear A20
 by_cases c3 : t551 = 0
 ·rw [if_pos c3] at H
  have c3b0 : (t551 == 0) = true := beq_iff_eq.mpr c3
  have c3b1 : (t551 != 0) = false := bne_eq_false_iff_eq.mpr c3
  clear c3
  replace H := Option.bind_eq_some_iff.mp H; obtain ⟨⟨t553, t554, t555, t556, t557, t558, t559, t560, t561, t562, t563, t564⟩, A40, H⟩ := H; try dsimp only at H
  have A4 := Aside0.mk A40
  clear A40
  by_cases c5 : t546 = 8
  ·rw [if_pos c5] at H
   have c5b0 : (t546 == 8) = true := beq_iff_eq.mpr c5
   have c5b1 : (t546 != 8) = false := bne_eq_false_iff_eq.mpr c5
   clear c5
   obtain rfl := Option.some.inj H
   go_enter Tryd.func27, Tryd.ntmps27
   go_wp2_with (first | ((with_reducible refine gate_dst (N := 1) rfl ?_); refine sh_box 1 #[.int .u8 a0_0, .int .u8 a0_1, .int .u8 a0_2, .int .i16 a0_3, .int .i32 a0_4] 24 ?_; intro gb545 hg w6 hbox hb; have GE545 := sh_z (w := w) hg; replace HB := sh_b (w := w) hb; have BK545 := Aside0.mk (hbox); clear hb hbox hg; have hcz7 := blk_all5 BK545.out) | ((with_reducible refine gate_callee (f := 13) rfl ?_); refine sh_call (some 9) Tryd.func13 #[.agg #[.int .u8 a0_0, .int .u8 a0_1, .int .u8 a0_2, .int .i16 a0_3, .int .i32 a0_4]] ?_; (with_reducible refine (stockaderef02_Of.calls k a0_0 a0_1 a0_2 a0_3 a0_4 t546 t547 t548 t549 t550 t551 _ A2.out).mono ?_); rintro e w8 ⟨rfl, hb⟩; refine ⟨_, rfl, ?_⟩; replace BK545 := sh_k BK545 hb; replace HB := sh_b (w := w) hb; (try clear hb); (try clear hb2); (try clear hk); (try clear hi)) | ((with_reducible refine gate_dst (N := 3) rfl ?_); refine sh_box 3 #[.int .i64 0, .int .i64 0, .int .i64 0, .bool false, .bool false] 30 ?_; intro gb552 hg w9 hbox hb; have GE552 := sh_z (w := w) hg; have NB545_552 := sh_n BK545 hg; have NB552_545 := sh_s NB545_552; replace BK545 := sh_k BK545 hb; replace HB := sh_b (w := w) hb; have BK552 := Aside0.mk (hbox); clear hb hbox hg; have hnb10 := NB552_545.out; have hnc10 := NB545_552.out; have hcz11 := blk_all5 BK552.out; have hcz12 := blk_all5 BK545.out) | ((with_reducible refine gate_callee (f := 32) rfl ?_); refine sh_call (some 16) Tryd.func32 #[.agg #[.int .u8 a0_0, .int .u8 a0_1, .int .u8 a0_2, .int .i16 a0_3, .int .i32 a0_4]] ?_; (with_reducible refine (stockaderef02_Find.calls k a0_0 a0_1 a0_2 a0_3 a0_4 t553 t554 t555 t556 t557 t558 t559 t560 t561 t562 t563 t564 _ A4.out).mono ?_); rintro e w13 ⟨rfl, hb⟩; refine ⟨_, rfl, ?_⟩; replace BK545 := sh_kp (g := gb545) (t := 24) #[.int .u8 a0_0, .int .u8 a0_1, .int .u8 a0_2, .int .i16 a0_3, .int .i32 a0_4] hb; replace BK552 := sh_kp (g := gb552) (t := 30) #[.int .i64 t546, .int .i64 t547, .int .i64 t548, .bool t549, .bool t550] hb; replace HB := sh_b (w := w) hb; (try clear hb); (try clear hb2); (try clear hk); (try clear hi)) | ((with_reducible refine gate_dst (N := 5) rfl ?_); refine sh_box 5 #[.int .u8 0, .int .i64 0, .int .i64 0, .int .i64 0, .bool false, .bool false, .int .i64 0, .int .i64 0, .int .i64 0, .int .i64 0, .int .i64 0] 65 ?_; intro gb565 hg w14 hbox hb; have GE565 := sh_z (w := w) hg; have NB545_565 := sh_n BK545 hg; have NB552_565 := sh_n BK552 hg; have NB565_545 := sh_s NB545_565; have NB565_552 := sh_s NB552_565; replace BK545 := sh_k BK545 hb; replace BK552 := sh_k BK552 hb; replace HB := sh_b (w := w) hb; have BK565 := Aside0.mk (hbox); clear hb hbox hg; have hnb15 := NB565_545.out; have hnc15 := NB545_565.out; have hnb16 := NB565_552.out; have hnc16 := NB552_565.out; have hcz17 := blk_all11 BK565.out; have hcz18 := blk_all5 BK552.out))
   go_ret
   exact ⟨ret_now, b_now⟩
  ·rw [if_neg c5] at H
   have c5b0 : (t546 == 8) = false := beq_eq_false_iff_ne.mpr c5
   have c5b1 : (t546 != 8) = true := bne_iff_ne.mpr c5
   by_cases c19 : t559 = 2
   ·rw [if_pos c19] at H
    have c19b0 : (t559 == 2) = true := beq_iff_eq.mpr c19
    have c19b1 : (t559 != 2) = false := bne_eq_false_iff_eq.mpr c19
    clear c19
    obtain rfl := Option.some.inj H
    go_enter Tryd.func27, Tryd.ntmps27
    go_wp2_with (first | ((with_reducible refine gate_dst (N := 1) rfl ?_); refine sh_box 1 #[.int .u8 a0_0, .int .u8 a0_1, .int .u8 a0_2, .int .i16 a0_3, .int .i32 a0_4] 24 ?_; intro gb545 hg w20 hbox hb; have GE545 := sh_z (w := w) hg; replace HB := sh_b (w := w) hb; have BK545 := Aside0.mk (hbox); clear hb hbox hg; have hcz21 := blk_all5 BK545.out) | ((with_reducible refine gate_callee (f := 13) rfl ?_); refine sh_call (some 9) Tryd.func13 #[.agg #[.int .u8 a0_0, .int .u8 a0_1, .int .u8 a0_2, .int .i16 a0_3, .int .i32 a0_4]] ?_; (with_reducible refine (stockaderef02_Of.calls k a0_0 a0_1 a0_2 a0_3 a0_4 t546 t547 t548 t549 t550 t551 _ A2.out).mono ?_); rintro e w22 ⟨rfl, hb⟩; refine ⟨_, rfl, ?_⟩; replace BK545 := sh_k BK545 hb; replace HB := sh_b (w := w) hb; (try clear hb); (try clear hb2); (try clear hk); (try clear hi)) | ((with_reducible refine gate_dst (N := 3) rfl ?_); refine sh_box 3 #[.int .i64 0, .int .i64 0, .int .i64 0, .bool false, .bool false] 30 ?_; intro gb552 hg w23 hbox hb; have GE552 := sh_z (w := w) hg; have NB545_552 := sh_n BK545 hg; have NB552_545 := sh_s NB545_552; replace BK545 := sh_k BK545 hb; replace HB := sh_b (w := w) hb; have BK552 := Aside0.mk (hbox); clear hb hbox hg; have hnb24 := NB552_545.out; have hnc24 := NB545_552.out; have hcz25 := blk_all5 BK552.out; have hcz26 := blk_all5 BK545.out) | ((with_reducible refine gate_callee (f := 32) rfl ?_); refine sh_call (some 16) Tryd.func32 #[.agg #[.int .u8 a0_0, .int .u8 a0_1, .int .u8 a0_2, .int .i16 a0_3, .int .i32 a0_4]] ?_; (with_reducible refine (stockaderef02_Find.calls k a0_0 a0_1 a0_2 a0_3 a0_4 t553 t554 t555 t556 t557 t558 t559 t560 t561 t562 t563 t564 _ A4.out).mono ?_); rintro e w27 ⟨rfl, hb⟩; refine ⟨_, rfl, ?_⟩; replace BK545 := sh_kp (g := gb545) (t := 24) #[.int .u8 a0_0, .int .u8 a0_1, .int .u8 a0_2, .int .i16 a0_3, .int .i32 a0_4] hb; replace BK552 := sh_kp (g := gb552) (t := 30) #[.int .i64 t546, .int .i64 t547, .int .i64 t548, .bool t549, .bool t550] hb; replace HB := sh_b (w := w) hb; (try clear hb); (try clear hb2); (try clear hk); (try clear hi)) | ((with_reducible refine gate_dst (N := 5) rfl ?_); refine sh_box 5 #[.int .u8 0, .int .i64 0, .int .i64 0, .int .i64 0, .bool false, .bool false, .int .i64 0, .int .i64 0, .int .i64 0, .int .i64 0, .int .i64 0] 65 ?_; intro gb565 hg w28 hbox hb; have GE565 := sh_z (w := w) hg; have NB545_565 := sh_n BK545 hg; have NB552_565 := sh_n BK552 hg; have NB565_545 := sh_s NB545_565; have NB565_552 := sh_s NB552_565; replace BK545 := sh_k BK545 hb; replace BK552 := sh_k BK552 hb; replace HB := sh_b (w := w) hb; have BK565 := Aside0.mk (hbox); clear hb hbox hg; have hnb29 := NB565_545.out; have hnc29 := NB545_565.out; have hnb30 := NB565_552.out; have hnc30 := NB552_565.out; have hcz31 := blk_all11 BK565.out; have hcz32 := blk_all5 BK552.out; have hcz33 := blk_all5 BK545.out))
    go_ret
    exact ⟨ret_now, b_now⟩
   ·rw [if_neg c19] at H
    have c19b0 : (t559 == 2) = false := beq_eq_false_iff_ne.mpr c19
    have c19b1 : (t559 != 2) = true := bne_iff_ne.mpr c19
    obtain rfl := Option.some.inj H
    go_enter Tryd.func27, Tryd.ntmps27
    go_wp2_with (first | ((with_reducible refine gate_dst (N := 1) rfl ?_); refine sh_box 1 #[.int .u8 a0_0, .int .u8 a0_1, .int .u8 a0_2, .int .i16 a0_3, .int .i32 a0_4] 24 ?_; intro gb545 hg w34 hbox hb; have GE545 := sh_z (w := w) hg; replace HB := sh_b (w := w) hb; have BK545 := Aside0.mk (hbox); clear hb hbox hg; have hcz35 := blk_all5 BK545.out) | ((with_reducible refine gate_callee (f := 13) rfl ?_); refine sh_call (some 9) Tryd.func13 #[.agg #[.int .u8 a0_0, .int .u8 a0_1, .int .u8 a0_2, .int .i16 a0_3, .int .i32 a0_4]] ?_; (with_reducible refine (stockaderef02_Of.calls k a0_0 a0_1 a0_2 a0_3 a0_4 t546 t547 t548 t549 t550 t551 _ A2.out).mono ?_); rintro e w36 ⟨rfl, hb⟩; refine ⟨_, rfl, ?_⟩; replace BK545 := sh_k BK545 hb; replace HB := sh_b (w := w) hb; (try clear hb); (try clear hb2); (try clear hk); (try clear hi)) | ((with_reducible refine gate_dst (N := 3) rfl ?_); refine sh_box 3 #[.int .i64 0, .int .i64 0, .int .i64 0, .bool false, .bool false] 30 ?_; intro gb552 hg w37 hbox hb; have GE552 := sh_z (w := w) hg; have NB545_552 := sh_n BK545 hg; have NB552_545 := sh_s NB545_552; replace BK545 := sh_k BK545 hb; replace HB := sh_b (w := w) hb; have BK552 := Aside0.mk (hbox); clear hb hbox hg; have hnb38 := NB552_545.out; have hnc38 := NB545_552.out; have hcz39 := blk_all5 BK552.out; have hcz40 := blk_all5 BK545.out) | ((with_reducible refine gate_callee (f := 32) rfl ?_); refine sh_call (some 16) Tryd.func32 #[.agg #[.int .u8 a0_0, .int .u8 a0_1, .int .u8 a0_2, .int .i16 a0_3, .int .i32 a0_4]] ?_; (with_reducible refine (stockaderef02_Find.calls k a0_0 a0_1 a0_2 a0_3 a0_4 t553 t554 t555 t556 t557 t558 t559 t560 t561 t562 t563 t564 _ A4.out).mono ?_); rintro e w41 ⟨rfl, hb⟩; refine ⟨_, rfl, ?_⟩; replace BK545 := sh_kp (g := gb545) (t := 24) #[.int .u8 a0_0, .int .u8 a0_1, .int .u8 a0_2, .int .i16 a0_3, .int .i32 a0_4] hb; replace BK552 := sh_kp (g := gb552) (t := 30) #[.int .i64 t546, .int .i64 t547, .int .i64 t548, .bool t549, .bool t550] hb; replace HB := sh_b (w := w) hb; (try clear hb); (try clear hb2); (try clear hk); (try clear hi)) | ((with_reducible refine gate_dst (N := 5) rfl ?_); refine sh_box 5 #[.int .u8 0, .int .i64 0, .int .i64 0, .int .i64 0, .bool false, .bool false, .int .i64 0, .int .i64 0, .int .i64 0, .int .i64 0, .int .i64 0] 65 ?_; intro gb565 hg w42 hbox hb; have GE565 := sh_z (w := w) hg; have NB545_565 := sh_n BK545 hg; have NB552_565 := sh_n BK552 hg; have NB565_545 := sh_s NB545_565; have NB565_552 := sh_s NB552_565; replace BK545 := sh_k BK545 hb; replace BK552 := sh_k BK552 hb; replace HB := sh_b (w := w) hb; have BK565 := Aside0.mk (hbox); clear hb hbox hg; have hnb43 := NB565_545.out; have hnc43 := NB545_565.out; have hnb44 := NB565_552.out; have hnc44 := NB552_565.out; have hcz45 := blk_all11 BK565.out; have hcz46 := blk_all5 BK552.out))
    go_ret
    exact ⟨ret_now, b_now⟩
 ·rw [if_neg c3] at H
  have c3b0 : (t551 == 0) = false := beq_eq_false_iff_ne.mpr c3
  have c3b1 : (t551 != 0) = true := bne_iff_ne.mpr c3
  obtain rfl := Option.some.inj H
  go_enter Tryd.func27, Tryd.ntmps27
  go_wp2_with (first | ((with_reducible refine gate_dst (N := 1) rfl ?_); refine sh_box 1 #[.int .u8 a0_0, .int .u8 a0_1, .int .u8 a0_2, .int .i16 a0_3, .int .i32 a0_4] 24 ?_; intro gb545 hg w47 hbox hb; have GE545 := sh_z (w := w) hg; replace HB := sh_b (w := w) hb; have BK545 := Aside0.mk (hbox); clear hb hbox hg; have hcz48 := blk_all5 BK545.out) | ((with_reducible refine gate_callee (f := 13) rfl ?_); refine sh_call (some 9) Tryd.func13 #[.agg #[.int .u8 a0_0, .int .u8 a0_1, .int .u8 a0_2, .int .i16 a0_3, .int .i32 a0_4]] ?_; (with_reducible refine (stockaderef02_Of.calls k a0_0 a0_1 a0_2 a0_3 a0_4 t546 t547 t548 t549 t550 t551 _ A2.out).mono ?_); rintro e w49 ⟨rfl, hb⟩; refine ⟨_, rfl, ?_⟩; replace BK545 := sh_k BK545 hb; replace HB := sh_b (w := w) hb; (try clear hb); (try clear hb2); (try clear hk); (try clear hi)) | ((with_reducible refine gate_dst (N := 3) rfl ?_); refine sh_box 3 #[.int .i64 0, .int .i64 0, .int .i64 0, .bool false, .bool false] 30 ?_; intro gb552 hg w50 hbox hb; have GE552 := sh_z (w := w) hg; have NB545_552 := sh_n BK545 hg; have NB552_545 := sh_s NB545_552; replace BK545 := sh_k BK545 hb; replace HB := sh_b (w := w) hb; have BK552 := Aside0.mk (hbox); clear hb hbox hg; have hnb51 := NB552_545.out; have hnc51 := NB545_552.out; have hcz52 := blk_all5 BK552.out))
  go_ret
  exact ⟨ret_now, b_now⟩

end Go.Proofs.YtkojjjdeacdabaaDoor.P
