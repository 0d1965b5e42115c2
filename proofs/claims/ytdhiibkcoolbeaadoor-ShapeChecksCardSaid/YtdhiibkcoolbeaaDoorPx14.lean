/- Made by this session's driver over the kit's printer: for each Go function a Lean function with the same answers, and a proof that the Go call comes to these answers; no conditions but the ones each theorem names. -/
import Derived.Test.YtdhiibkcoolbeaaDoorPx0
import Derived.Test.YtdhiibkcoolbeaaDoorPx12
import Derived.Test.YtdhiibkcoolbeaaDoorPx13
namespace Go.Proofs.YtdhiibkcoolbeaaDoor.P
open Go.RowKit Go.Proofs.YtdhiibkcoolbeaaDoorW.PrintWords Go.Proofs.YtdhiibkcoolbeaaDoorW.PrintLast Go.Proofs.YtdhiibkcoolbeaaDoorW.PrintMore
attribute [local go_sem] max2_int min2_int max_two min_two max_three min_three max_four min_four   -- for this text's walks alone
set_option linter.unusedVariables false
set_option linter.unusedSimpArgs false

/-! ### stockaderef04_Alone: function 29 -/
mutual
def stockaderef04_Alone.j0 : Nat → Int → Bool → List (S52) → List (S40) → Int → Int → Int → Int → Int → Int → Int → Int → Bool → Bool → Option (Int)
 | 0, _, _, _, _, _, _, _, _, _, _, _, _, _, _ => none
 | k + 1, x1, x29, x312000, x312001, x314000, x314001, x314002, x314003, x314004, x321000, x321001, x321002, x321003, x321004 => if x29 = true then (if (wrap64 (x1 + 1)) ≥ (x312001.length : Int) then (some 23) else (if 0 ≤ (wrap64 (x1 + 1)) then (if (wrap64 (x1 + 1)) < (x312001.length : Int) then (if ((rd_T40 x312001 (wrap64 (x1 + 1))).f0) = 0 then (if ((rd_T40 x312001 (wrap64 (x1 + 1))).f1) = 0 then (if ((rd_T40 x312001 (wrap64 (x1 + 1))).f2) = 0 then (if ((rd_T40 x312001 (wrap64 (x1 + 1))).f3) = 0 then (if x321000 = 11 then (stockaderef04_Alone.j1 k (((rd_T40 x312001 (wrap64 (x1 + 1))).f4) != 0) x312000 x312001 x314000 x314001 x314002 x314003 x314004 x321000 x321001 x321002 x321003 x321004) else (stockaderef04_Alone.j1 k false x312000 x312001 x314000 x314001 x314002 x314003 x314004 x321000 x321001 x321002 x321003 x321004)) else (stockaderef04_Alone.j1 k true x312000 x312001 x314000 x314001 x314002 x314003 x314004 x321000 x321001 x321002 x321003 x321004)) else (stockaderef04_Alone.j1 k true x312000 x312001 x314000 x314001 x314002 x314003 x314004 x321000 x321001 x321002 x321003 x321004)) else (stockaderef04_Alone.j1 k true x312000 x312001 x314000 x314001 x314002 x314003 x314004 x321000 x321001 x321002 x321003 x321004)) else (stockaderef04_Alone.j1 k true x312000 x312001 x314000 x314001 x314002 x314003 x314004 x321000 x321001 x321002 x321003 x321004)) else (none)) else (none))) else (if x321000 = 8 then ((stockaderef04_Helper.f x314004).bind fun t324 => (if t324 = true then (some 0) else (some 27))) else (some 0))
def stockaderef04_Alone.j1 : Nat → Bool → List (S52) → List (S40) → Int → Int → Int → Int → Int → Int → Int → Int → Bool → Bool → Option (Int)
 | 0, _, _, _, _, _, _, _, _, _, _, _, _, _ => none
 | k + 1, x69, x312000, x312001, x314000, x314001, x314002, x314003, x314004, x321000, x321001, x321002, x321003, x321004 => if x69 = true then (some 23) else (if x321000 = 11 then (if (wrap64 (x314004)) < 0 then (stockaderef04_Alone.j2 k true x314000 x314001 x314002 x314003 x314004 x321000 x321001 x321002 x321003 x321004) else (stockaderef04_Alone.j2 k (decide ((wrap64 (x314004)) ≥ (x312000.length : Int))) x314000 x314001 x314002 x314003 x314004 x321000 x321001 x321002 x321003 x321004)) else (stockaderef04_Alone.j2 k false x314000 x314001 x314002 x314003 x314004 x321000 x321001 x321002 x321003 x321004))
def stockaderef04_Alone.j2 : Nat → Bool → Int → Int → Int → Int → Int → Int → Int → Int → Bool → Bool → Option (Int)
 | 0, _, _, _, _, _, _, _, _, _, _, _ => none
 | k + 1, x87, x314000, x314001, x314002, x314003, x314004, x321000, x321001, x321002, x321003, x321004 => if x87 = true then (some 26) else (if x321000 = 8 then ((stockaderef04_Helper.f x314004).bind fun t323 => (if t323 = true then (some 0) else (some 27))) else (some 0))
end
def stockaderef04_Alone.f (k : Nat) (l0_0 : List (S52)) (l0_1 : List (S40)) (a1 : Int) : Option (Int) := if 0 ≤ a1 then (if a1 < (l0_1.length : Int) then ((stockaderef02_Of.f k ((rd_T40 l0_1 a1).f0) ((rd_T40 l0_1 a1).f1) ((rd_T40 l0_1 a1).f2) ((rd_T40 l0_1 a1).f3) ((rd_T40 l0_1 a1).f4)).bind fun bt314 => (if bt314.2.2.2.2.2 = 0 then (if bt314.1 = 10 then (stockaderef04_Alone.j0 k a1 true l0_0 l0_1 ((rd_T40 l0_1 a1).f0) ((rd_T40 l0_1 a1).f1) ((rd_T40 l0_1 a1).f2) ((rd_T40 l0_1 a1).f3) ((rd_T40 l0_1 a1).f4) bt314.1 bt314.2.1 bt314.2.2.1 bt314.2.2.2.1 bt314.2.2.2.2.1) else (stockaderef04_Alone.j0 k a1 (bt314.1 == 11) l0_0 l0_1 ((rd_T40 l0_1 a1).f0) ((rd_T40 l0_1 a1).f1) ((rd_T40 l0_1 a1).f2) ((rd_T40 l0_1 a1).f3) ((rd_T40 l0_1 a1).f4) bt314.1 bt314.2.1 bt314.2.2.1 bt314.2.2.2.1 bt314.2.2.2.2.1)) else (some bt314.2.2.2.2.2))) else (none)) else (none)
theorem stockaderef04_Alone.mono_l : ∀ k, (∀ y0 y1 y2 y3 y4 y5 y6 y7 y8 y9 y10 y11 y12 y13, LeO (stockaderef04_Alone.j0 k y0 y1 y2 y3 y4 y5 y6 y7 y8 y9 y10 y11 y12 y13) (stockaderef04_Alone.j0 (k + 1) y0 y1 y2 y3 y4 y5 y6 y7 y8 y9 y10 y11 y12 y13)) ∧ (∀ y0 y1 y2 y3 y4 y5 y6 y7 y8 y9 y10 y11 y12, LeO (stockaderef04_Alone.j1 k y0 y1 y2 y3 y4 y5 y6 y7 y8 y9 y10 y11 y12) (stockaderef04_Alone.j1 (k + 1) y0 y1 y2 y3 y4 y5 y6 y7 y8 y9 y10 y11 y12)) ∧ (∀ y0 y1 y2 y3 y4 y5 y6 y7 y8 y9 y10, LeO (stockaderef04_Alone.j2 k y0 y1 y2 y3 y4 y5 y6 y7 y8 y9 y10) (stockaderef04_Alone.j2 (k + 1) y0 y1 y2 y3 y4 y5 y6 y7 y8 y9 y10))
 | 0 => ⟨fun _ _ _ _ _ _ _ _ _ _ _ _ _ _ r h => by simp [stockaderef04_Alone.j0] at h, fun _ _ _ _ _ _ _ _ _ _ _ _ _ r h => by simp [stockaderef04_Alone.j1] at h, fun _ _ _ _ _ _ _ _ _ _ _ r h => by simp [stockaderef04_Alone.j2] at h⟩
 | k + 1 => by
  obtain ⟨ih0, ih1, ih2⟩ := stockaderef04_Alone.mono_l k
  refine ⟨?_, ?_, ?_⟩
  ·intro y0 y1 y2 y3 y4 y5 y6 y7 y8 y9 y10 y11 y12 y13
   unfold stockaderef04_Alone.j0
   repeat' first
   | (with_reducible exact ih0 _ _ _ _ _ _ _ _ _ _ _ _ _ _)
   | (with_reducible exact ih1 _ _ _ _ _ _ _ _ _ _ _ _ _)
   | (with_reducible exact ih2 _ _ _ _ _ _ _ _ _ _ _)
   | (with_reducible exact stockaderef02_Of.mono _ _ _ _ _ _)
   | (with_reducible exact LeO.refl _)
   | (with_reducible exact LeO.none _)
   | (with_reducible refine LeO.ite ?_ ?_)
   | (with_reducible refine LeO.bind ?_ (fun _ => ?_))
   | exact ih0 _ _ _ _ _ _ _ _ _ _ _ _ _ _
   | exact ih1 _ _ _ _ _ _ _ _ _ _ _ _ _
   | exact ih2 _ _ _ _ _ _ _ _ _ _ _
   | exact stockaderef02_Of.mono _ _ _ _ _ _
   | exact LeO.none _
   | refine LeO.ite ?_ ?_
   | refine LeO.bind ?_ (fun _ => ?_)
  ·intro y0 y1 y2 y3 y4 y5 y6 y7 y8 y9 y10 y11 y12
   unfold stockaderef04_Alone.j1
   repeat' first
   | (with_reducible exact ih0 _ _ _ _ _ _ _ _ _ _ _ _ _ _)
   | (with_reducible exact ih1 _ _ _ _ _ _ _ _ _ _ _ _ _)
   | (with_reducible exact ih2 _ _ _ _ _ _ _ _ _ _ _)
   | (with_reducible exact stockaderef02_Of.mono _ _ _ _ _ _)
   | (with_reducible exact LeO.refl _)
   | (with_reducible exact LeO.none _)
   | (with_reducible refine LeO.ite ?_ ?_)
   | (with_reducible refine LeO.bind ?_ (fun _ => ?_))
   | exact ih0 _ _ _ _ _ _ _ _ _ _ _ _ _ _
   | exact ih1 _ _ _ _ _ _ _ _ _ _ _ _ _
   | exact ih2 _ _ _ _ _ _ _ _ _ _ _
   | exact stockaderef02_Of.mono _ _ _ _ _ _
   | exact LeO.none _
   | refine LeO.ite ?_ ?_
   | refine LeO.bind ?_ (fun _ => ?_)
  ·intro y0 y1 y2 y3 y4 y5 y6 y7 y8 y9 y10
   unfold stockaderef04_Alone.j2
   repeat' first
   | (with_reducible exact ih0 _ _ _ _ _ _ _ _ _ _ _ _ _ _)
   | (with_reducible exact ih1 _ _ _ _ _ _ _ _ _ _ _ _ _)
   | (with_reducible exact ih2 _ _ _ _ _ _ _ _ _ _ _)
   | (with_reducible exact stockaderef02_Of.mono _ _ _ _ _ _)
   | (with_reducible exact LeO.refl _)
   | (with_reducible exact LeO.none _)
   | (with_reducible refine LeO.ite ?_ ?_)
   | (with_reducible refine LeO.bind ?_ (fun _ => ?_))
   | exact ih0 _ _ _ _ _ _ _ _ _ _ _ _ _ _
   | exact ih1 _ _ _ _ _ _ _ _ _ _ _ _ _
   | exact ih2 _ _ _ _ _ _ _ _ _ _ _
   | exact stockaderef02_Of.mono _ _ _ _ _ _
   | exact LeO.none _
   | refine LeO.ite ?_ ?_
   | refine LeO.bind ?_ (fun _ => ?_)
theorem stockaderef04_Alone.mono : ∀ a0 a1 a2 k, LeO (stockaderef04_Alone.f k a0 a1 a2) (stockaderef04_Alone.f (k + 1) a0 a1 a2) := by
 intro a0 a1 a2 k
 obtain ⟨ih0, ih1, ih2⟩ := stockaderef04_Alone.mono_l k
 unfold stockaderef04_Alone.f
 repeat' first
   | (with_reducible exact ih0 _ _ _ _ _ _ _ _ _ _ _ _ _ _)
   | (with_reducible exact ih1 _ _ _ _ _ _ _ _ _ _ _ _ _)
   | (with_reducible exact ih2 _ _ _ _ _ _ _ _ _ _ _)
   | (with_reducible exact stockaderef02_Of.mono _ _ _ _ _ _)
   | (with_reducible exact LeO.refl _)
   | (with_reducible exact LeO.none _)
   | (with_reducible refine LeO.ite ?_ ?_)
   | (with_reducible refine LeO.bind ?_ (fun _ => ?_))
   | exact ih0 _ _ _ _ _ _ _ _ _ _ _ _ _ _
   | exact ih1 _ _ _ _ _ _ _ _ _ _ _ _ _
   | exact ih2 _ _ _ _ _ _ _ _ _ _ _
   | exact stockaderef02_Of.mono _ _ _ _ _ _
   | exact LeO.none _
   | refine LeO.ite ?_ ?_
   | refine LeO.bind ?_ (fun _ => ?_)
set_option maxHeartbeats 8000000 in
set_option maxRecDepth 100000 in
theorem stockaderef04_Alone.calls (k : Nat) (A0_0 : Option Addr) (c0_0 : Nat) (l0_0 : List (S52)) (A0_1 : Option Addr) (c0_1 : Nat) (l0_1 : List (S40)) (a1 : Int) (r : Int) (w : World) (hr0_0 : Kd.C k52 w A0_0 l0_0.length l0_0) (hc0_0 : l0_0.length ≤ c0_0) (hr0_1 : Kd.C k40 w A0_1 l0_1.length l0_1) (hc0_1 : l0_1.length ≤ c0_1) (h : stockaderef04_Alone.f k l0_0 l0_1 a1 = some r) :
  Calls Tryd.prog 29 #[.agg #[.slice A0_0 l0_0.length c0_0, .slice A0_1 l0_1.length c0_1], .int .i64 a1] w fun e w' => e = .returned (.int .i64 r) ∧ Below w.heap.size w w' := by
 have hu25 := Tryd.underlying25
 have hu40 := Tryd.underlying40
 have hu59 := Tryd.underlying59
 have HR0_0 := Aside0.mk hr0_0
 have HC0_0 := Aside0.mk hc0_0
 clear hr0_0 hc0_0
 have HR0_1 := Aside0.mk hr0_1
 have HC0_1 := Aside0.mk hc0_1
 clear hr0_1 hc0_1
 have HB := Aside0.mk (Below.refl w.heap.size w)
 have H : (if 0 ≤ a1 then (if a1 < (l0_1.length : Int) then ((stockaderef02_Of.f k ((rd_T40 l0_1 a1).f0) ((rd_T40 l0_1 a1).f1) ((rd_T40 l0_1 a1).f2) ((rd_T40 l0_1 a1).f3) ((rd_T40 l0_1 a1).f4)).bind fun bt314 => (if bt314.2.2.2.2.2 = 0 then (if bt314.1 = 10 then (stockaderef04_Alone.j0 k a1 true l0_0 l0_1 ((rd_T40 l0_1 a1).f0) ((rd_T40 l0_1 a1).f1) ((rd_T40 l0_1 a1).f2) ((rd_T40 l0_1 a1).f3) ((rd_T40 l0_1 a1).f4) bt314.1 bt314.2.1 bt314.2.2.1 bt314.2.2.2.1 bt314.2.2.2.2.1) else (stockaderef04_Alone.j0 k a1 (bt314.1 == 11) l0_0 l0_1 ((rd_T40 l0_1 a1).f0) ((rd_T40 l0_1 a1).f1) ((rd_T40 l0_1 a1).f2) ((rd_T40 l0_1 a1).f3) ((rd_T40 l0_1 a1).f4) bt314.1 bt314.2.1 bt314.2.2.1 bt314.2.2.2.1 bt314.2.2.2.2.1)) else (some bt314.2.2.2.2.2))) else (none)) else (none)) = some r := h
 clear h
 by_cases c3 : 0 ≤ a1
 ·rw [if_pos c3] at H
  have c3b0 : decide (0 ≤ a1) = true := decide_eq_true c3
  clear c3
  by_cases c4 : a1 < (l0_1.length : Int)
  ·rw [if_pos c4] at H
   have c4b0 : decide (a1 < (l0_1.length : Int)) = true := decide_eq_true c4
   clear c4
   replace H := Option.bind_eq_some_iff.mp H; obtain ⟨⟨t314, t315, t316, t317, t318, t319⟩, A50, H⟩ := H; try dsimp only at H
   have A5 := Aside0.mk A50
   clear A50
   by_cases c6 : t319 = 0
   ·rw [if_pos c6] at H
    have c6b0 : (t319 == 0) = true := beq_iff_eq.mpr c6
    have c6b1 : (t319 != 0) = false := bne_eq_false_iff_eq.mpr c6
    clear c6
    have HC7 := Aside0.mk H
    clear H
    go_enter Tryd.func29, Tryd.ntmps29
    go_upto_region 5 with (first | ((with_reducible refine gate_dst (N := 2) rfl ?_); (try (refine gate_guard (by rfl) ?_; dsimp only)); refine sh_box 2 #[.slice A0_0 l0_0.length c0_0, .slice A0_1 l0_1.length c0_1] 25 ?_; intro gb311 hg w8 hbox hb; have GE311 := sh_z (w := w) hg; replace HB := sh_b (w := w) hb; have BK311 := Aside0.mk (hbox); clear hb hbox hg; have hcz9 := blk_all2 BK311.out; have p312 : 0 ≤ (a1 : Int) := of_decide_eq_true (by first | (with_reducible assumption) | assumption); have q312 : a1 < (l0_1.length : Int) := of_decide_eq_true (by first | (with_reducible assumption) | assumption); obtain ⟨ad312, e312, hx312_0, hx312_1, hx312_2, hx312_3, hx312_4⟩ := at_T40 HR0_1.out a1 p312 q312; cases e312; replace hx312_0 := (HB.out.cell (World.block_lt_of_cell? w _ hx312_0)).trans hx312_0; replace hx312_1 := (HB.out.cell (World.block_lt_of_cell? w _ hx312_1)).trans hx312_1; replace hx312_2 := (HB.out.cell (World.block_lt_of_cell? w _ hx312_2)).trans hx312_2; replace hx312_3 := (HB.out.cell (World.block_lt_of_cell? w _ hx312_3)).trans hx312_3; replace hx312_4 := (HB.out.cell (World.block_lt_of_cell? w _ hx312_4)).trans hx312_4; replace p312 := eq_true p312; replace q312 := eq_true q312) | ((with_reducible refine gate_dst (N := 5) rfl ?_); (try (refine gate_guard (by rfl) ?_; dsimp only)); refine sh_box 5 #[.int .u8 0, .int .u8 0, .int .u8 0, .int .i16 0, .int .i32 0] 40 ?_; intro gb313 hg w10 hbox hb; have GE313 := sh_z (w := w) hg; have NB311_313 := sh_n BK311 hg; have NB313_311 := sh_s NB311_313; replace BK311 := sh_k BK311 hb; replace HB := sh_b (w := w) hb; have BK313 := Aside0.mk (hbox); clear hb hbox hg; have hnb11 := NB313_311.out; have hnc11 := NB311_313.out; have hcz12 := blk_all5 BK313.out) | ((with_reducible refine gate_callee (f := 30) rfl ?_); refine sh_call (some 16) Tryd.func30 #[.agg #[.int .u8 ((rd_T40 l0_1 a1).f0), .int .u8 ((rd_T40 l0_1 a1).f1), .int .u8 ((rd_T40 l0_1 a1).f2), .int .i16 ((rd_T40 l0_1 a1).f3), .int .i32 ((rd_T40 l0_1 a1).f4)]] ?_; (with_reducible refine (stockaderef02_Of.calls k ((rd_T40 l0_1 a1).f0) ((rd_T40 l0_1 a1).f1) ((rd_T40 l0_1 a1).f2) ((rd_T40 l0_1 a1).f3) ((rd_T40 l0_1 a1).f4) t314 t315 t316 t317 t318 t319 _ A5.out).mono ?_); rintro e w13 ⟨rfl, hb⟩; refine ⟨_, rfl, ?_⟩; replace BK311 := sh_kp (g := gb311) (t := 25) #[.slice A0_0 l0_0.length c0_0, .slice (some ad312) l0_1.length c0_1] hb; replace BK313 := sh_kp (g := gb313) (t := 40) #[.int .u8 ((rd_T40 l0_1 a1).f0), .int .u8 ((rd_T40 l0_1 a1).f1), .int .u8 ((rd_T40 l0_1 a1).f2), .int .i16 ((rd_T40 l0_1 a1).f3), .int .i32 ((rd_T40 l0_1 a1).f4)] hb; replace HB := sh_b (w := w) hb; (try clear hb); (try clear hb2); (try clear hk); (try clear hi)) | ((with_reducible refine gate_dst (N := 6) rfl ?_); (try (refine gate_guard (by rfl) ?_; dsimp only)); refine sh_box 6 #[.int .i64 0, .int .i64 0, .int .i64 0, .bool false, .bool false] 59 ?_; intro gb320 hg w14 hbox hb; have GE320 := sh_z (w := w) hg; have NB311_320 := sh_n BK311 hg; have NB313_320 := sh_n BK313 hg; have NB320_311 := sh_s NB311_320; have NB320_313 := sh_s NB313_320; replace BK311 := sh_k BK311 hb; replace BK313 := sh_k BK313 hb; replace HB := sh_b (w := w) hb; have BK320 := Aside0.mk (hbox); clear hb hbox hg; have hnb15 := NB320_311.out; have hnc15 := NB311_320.out; have hnb16 := NB320_313.out; have hnc16 := NB313_320.out; have hcz17 := blk_all5 BK320.out))
    (try simp only [Act.put, List.setIfInBounds_toArray, List.set_cons_zero, List.set_cons_succ])
    go_cut [29] (fun v29 wc => ∃ (kq : Nat) (x29_6 : Bool), v29 = .bool x29_6 ∧ Aside0 (stockaderef04_Alone.j0 kq a1 x29_6 l0_0 l0_1 ((rd_T40 l0_1 a1).f0) ((rd_T40 l0_1 a1).f1) ((rd_T40 l0_1 a1).f2) ((rd_T40 l0_1 a1).f3) ((rd_T40 l0_1 a1).f4) t314 t315 t316 t317 t318 = some r) ∧ Aside0 (kq ≤ k) ∧ Aside0 (wc.heap[gb311]? = some (.cells #[(.slice A0_0 l0_0.length c0_0), (.slice (some ad312) l0_1.length c0_1)] 25 (0, 0))) ∧ Aside0 (wc.heap[gb313]? = some (.cells #[.int .u8 ((rd_T40 l0_1 a1).f0), .int .u8 ((rd_T40 l0_1 a1).f1), .int .u8 ((rd_T40 l0_1 a1).f2), .int .i16 ((rd_T40 l0_1 a1).f3), .int .i32 ((rd_T40 l0_1 a1).f4)] 40 (0, 0))) ∧ Aside0 (wc.heap[gb320]? = some (.cells #[.int .i64 t314, .int .i64 t315, .int .i64 t316, .bool t317, .bool t318] 59 (0, 0))) ∧ Aside0 (Below w.heap.size w wc))
    case first =>
     have H := HC7.out
     clear HC7
     by_cases c18 : t314 = 10
     ·rw [if_pos c18] at H
      have c18b0 : (t314 == 10) = true := beq_iff_eq.mpr c18
      have c18b1 : (t314 != 10) = false := bne_eq_false_iff_eq.mpr c18
      clear c18
      (first | rw [c18b0] | (simp only [i64_w, i32_w]; rw [c18b0]) | skip)
      have H' := Aside0.mk H
      clear H
      have hnb19 := NB320_311.out
      have hnc19 := NB311_320.out
      have hnb20 := NB320_313.out
      have hnc20 := NB313_320.out
      have hcz21 := blk_all5 BK320.out
      go_wp2
      go_meet
      case rel => exact ⟨_, (true), eq_now, H', ⟨by first | omega | exact Nat.le_refl _⟩, ⟨bk_now⟩, ⟨bk_now⟩, ⟨bk_now⟩, ⟨b_now⟩⟩
     ·rw [if_neg c18] at H
      have c18b0 : (t314 == 10) = false := beq_eq_false_iff_ne.mpr c18
      have c18b1 : (t314 != 10) = true := bne_iff_ne.mpr c18
      (first | rw [c18b0] | (simp only [i64_w, i32_w]; rw [c18b0]) | skip)
      have H' := Aside0.mk H
      clear H
      have hnb22 := NB320_311.out
      have hnc22 := NB311_320.out
      have hnb23 := NB320_313.out
      have hnc23 := NB313_320.out
      have hcz24 := blk_all5 BK320.out
      go_wp2
      go_meet
      case rel => exact ⟨_, ((t314 == 11)), eq_now, H', ⟨by first | omega | exact Nat.le_refl _⟩, ⟨bk_now⟩, ⟨bk_now⟩, ⟨bk_now⟩, ⟨b_now⟩⟩
    case rest =>
     clear HC7
     try clear c1
     try clear c2
     try clear p2
     try clear c3
     try clear c3b0
     try clear p3
     try clear q3
     try clear hx3
     try clear c4
     try clear c4b0
     try clear c6
     try clear c6b0
     try clear c6b1
     try clear c11
     try clear c15
     try clear c16
     try clear c18
     try clear c18b0
     try clear c18b1
     try clear c19
     try clear c20
     try clear c22
     try clear c23
     try clear hcz12
     try clear hcz17
     try clear hcz21
     try clear hcz24
     try clear hcz9
     try clear hx312_0
     try clear hx312_1
     try clear hx312_2
     try clear hx312_3
     try clear hx312_4
     try clear p312
     try clear q312
     obtain ⟨kq, x29_6, rfl, HA, HJ6, BK311, BK313, BK320, HB⟩ := hcut
     cases kq with
     | zero => exact absurd HA.out (by simp [stockaderef04_Alone.j0])
     | succ kj6 =>
      have H := HA.out
      clear HA
      simp only [stockaderef04_Alone.j0] at H
      by_cases c25 : x29_6 = true
      ·subst c25
       replace H := sh_t H
       by_cases c26 : (wrap64 (a1 + 1)) ≥ (l0_1.length : Int)
       ·rw [if_pos c26] at H
        have c26b0 : decide ((l0_1.length : Int) ≤ (wrap64 (a1 + 1))) = true := decide_eq_true c26
        clear c26
        obtain rfl := Option.some.inj H
        have hnb27 := NB311_313.out
        have hnc27 := NB313_311.out
        have hnb28 := NB311_320.out
        have hnc28 := NB320_311.out
        have hcz29 := blk_all2 BK311.out
        go_wp2
        go_ret
        exact ⟨ret_now, b_now⟩
       ·rw [if_neg c26] at H
        have c26b0 : decide ((l0_1.length : Int) ≤ (wrap64 (a1 + 1))) = false := decide_eq_false c26
        clear c26
        obtain ⟨ji30, hji30⟩ : ∃ j_ : Int, (wrap64 (a1 + 1)) = j_ := ⟨_, rfl⟩
        replace H : (if 0 ≤ (ji30) then (if (ji30) < (l0_1.length : Int) then (if ((rd_T40 l0_1 (ji30)).f0) = 0 then (if ((rd_T40 l0_1 (ji30)).f1) = 0 then (if ((rd_T40 l0_1 (ji30)).f2) = 0 then (if ((rd_T40 l0_1 (ji30)).f3) = 0 then (if t314 = 11 then (stockaderef04_Alone.j1 kj6 (((rd_T40 l0_1 (ji30)).f4) != 0) l0_0 l0_1 ((rd_T40 l0_1 a1).f0) ((rd_T40 l0_1 a1).f1) ((rd_T40 l0_1 a1).f2) ((rd_T40 l0_1 a1).f3) ((rd_T40 l0_1 a1).f4) t314 t315 t316 t317 t318) else (stockaderef04_Alone.j1 kj6 false l0_0 l0_1 ((rd_T40 l0_1 a1).f0) ((rd_T40 l0_1 a1).f1) ((rd_T40 l0_1 a1).f2) ((rd_T40 l0_1 a1).f3) ((rd_T40 l0_1 a1).f4) t314 t315 t316 t317 t318)) else (stockaderef04_Alone.j1 kj6 true l0_0 l0_1 ((rd_T40 l0_1 a1).f0) ((rd_T40 l0_1 a1).f1) ((rd_T40 l0_1 a1).f2) ((rd_T40 l0_1 a1).f3) ((rd_T40 l0_1 a1).f4) t314 t315 t316 t317 t318)) else (stockaderef04_Alone.j1 kj6 true l0_0 l0_1 ((rd_T40 l0_1 a1).f0) ((rd_T40 l0_1 a1).f1) ((rd_T40 l0_1 a1).f2) ((rd_T40 l0_1 a1).f3) ((rd_T40 l0_1 a1).f4) t314 t315 t316 t317 t318)) else (stockaderef04_Alone.j1 kj6 true l0_0 l0_1 ((rd_T40 l0_1 a1).f0) ((rd_T40 l0_1 a1).f1) ((rd_T40 l0_1 a1).f2) ((rd_T40 l0_1 a1).f3) ((rd_T40 l0_1 a1).f4) t314 t315 t316 t317 t318)) else (stockaderef04_Alone.j1 kj6 true l0_0 l0_1 ((rd_T40 l0_1 a1).f0) ((rd_T40 l0_1 a1).f1) ((rd_T40 l0_1 a1).f2) ((rd_T40 l0_1 a1).f3) ((rd_T40 l0_1 a1).f4) t314 t315 t316 t317 t318)) else (none)) else (none)) = some r := by first | (rw [hji30] at H; exact H) | (simp only [hji30] at H ⊢; exact H)
        (try rw [hji30] at c26b0)
        have hji30w : (IntKind.i64.wrap (a1 + 1)) = ji30 := (i64_w _).trans hji30
        by_cases c31 : 0 ≤ (ji30)
        ·rw [if_pos c31] at H
         have c31b0 : decide (0 ≤ (ji30)) = true := decide_eq_true c31
         clear c31
         by_cases c32 : (ji30) < (l0_1.length : Int)
         ·rw [if_pos c32] at H
          have c32b0 : decide ((ji30) < (l0_1.length : Int)) = true := decide_eq_true c32
          clear c32
          have HC33 := Aside0.mk H
          clear H
          have hnb34 := NB311_313.out
          have hnc34 := NB313_311.out
          have hnb35 := NB311_320.out
          have hnc35 := NB320_311.out
          have hcz36 := blk_all2 BK311.out
          have p321 : 0 ≤ ((ji30) : Int) := of_decide_eq_true (by first | (with_reducible assumption) | assumption)
          have q321 : (ji30) < (l0_1.length : Int) := of_decide_eq_true (by first | (with_reducible assumption) | assumption)
          obtain ⟨ad321, e321, hx321_0, hx321_1, hx321_2, hx321_3, hx321_4⟩ := at_T40 HR0_1.out (ji30) p321 q321
          obtain rfl : ad312 = ad321 := (by injection e321)
          replace hx321_0 := (HB.out.cell (World.block_lt_of_cell? w _ hx321_0)).trans hx321_0
          replace hx321_1 := (HB.out.cell (World.block_lt_of_cell? w _ hx321_1)).trans hx321_1
          replace hx321_2 := (HB.out.cell (World.block_lt_of_cell? w _ hx321_2)).trans hx321_2
          replace hx321_3 := (HB.out.cell (World.block_lt_of_cell? w _ hx321_3)).trans hx321_3
          replace hx321_4 := (HB.out.cell (World.block_lt_of_cell? w _ hx321_4)).trans hx321_4
          replace p321 := eq_true p321
          replace q321 := eq_true q321
          go_upto_region 9 with (first | ((with_reducible refine gate_dst (N := 8) rfl ?_); (try (refine gate_guard (by rfl) ?_; dsimp only)); refine sh_box 8 #[.int .u8 0, .int .u8 0, .int .u8 0, .int .i16 0, .int .i32 0] 40 ?_; intro gb322 hg w37 hbox hb; have GE322 := sh_z (w := w) hg; have NB311_322 := sh_n BK311 hg; have NB313_322 := sh_n BK313 hg; have NB320_322 := sh_n BK320 hg; have NB322_311 := sh_s NB311_322; have NB322_313 := sh_s NB313_322; have NB322_320 := sh_s NB320_322; replace BK311 := sh_k BK311 hb; replace BK313 := sh_k BK313 hb; replace BK320 := sh_k BK320 hb; replace HB := sh_b (w := w) hb; have BK322 := Aside0.mk (hbox); clear hb hbox hg; have hnb38 := NB322_311.out; have hnc38 := NB311_322.out; have hnb39 := NB322_313.out; have hnc39 := NB313_322.out; have hnb40 := NB322_320.out; have hnc40 := NB320_322.out; have hcz41 := blk_all5 BK322.out))
          (try simp only [Act.put, List.setIfInBounds_toArray, List.set_cons_zero, List.set_cons_succ])
          go_cut [69] (fun v69 wc => ∃ (kq : Nat) (x69_32 : Bool), v69 = .bool x69_32 ∧ Aside0 (stockaderef04_Alone.j1 kq x69_32 l0_0 l0_1 ((rd_T40 l0_1 a1).f0) ((rd_T40 l0_1 a1).f1) ((rd_T40 l0_1 a1).f2) ((rd_T40 l0_1 a1).f3) ((rd_T40 l0_1 a1).f4) t314 t315 t316 t317 t318 = some r) ∧ Aside0 (kq ≤ kj6) ∧ Aside0 (wc.heap[gb311]? = some (.cells #[(.slice A0_0 l0_0.length c0_0), (.slice (some ad312) l0_1.length c0_1)] 25 (0, 0))) ∧ Aside0 (wc.heap[gb313]? = some (.cells #[.int .u8 ((rd_T40 l0_1 a1).f0), .int .u8 ((rd_T40 l0_1 a1).f1), .int .u8 ((rd_T40 l0_1 a1).f2), .int .i16 ((rd_T40 l0_1 a1).f3), .int .i32 ((rd_T40 l0_1 a1).f4)] 40 (0, 0))) ∧ Aside0 (wc.heap[gb320]? = some (.cells #[.int .i64 t314, .int .i64 t315, .int .i64 t316, .bool t317, .bool t318] 59 (0, 0))) ∧ Aside0 (wc.heap[gb322]? = some (.cells #[.int .u8 ((rd_T40 l0_1 (ji30)).f0), .int .u8 ((rd_T40 l0_1 (ji30)).f1), .int .u8 ((rd_T40 l0_1 (ji30)).f2), .int .i16 ((rd_T40 l0_1 (ji30)).f3), .int .i32 ((rd_T40 l0_1 (ji30)).f4)] 40 (0, 0))) ∧ Aside0 (Below w.heap.size w wc))
          case first =>
           have H := HC33.out
           clear HC33
           by_cases c42 : ((rd_T40 l0_1 (ji30)).f0) = 0
           ·rw [if_pos c42] at H
            have c42b0 : (((rd_T40 l0_1 (ji30)).f0) == 0) = true := beq_iff_eq.mpr c42
            have c42b1 : (((rd_T40 l0_1 (ji30)).f0) != 0) = false := bne_eq_false_iff_eq.mpr c42
            clear c42
            (first | rw [c42b0] | (simp only [i64_w, i32_w]; rw [c42b0]) | skip)
            by_cases c43 : ((rd_T40 l0_1 (ji30)).f1) = 0
            ·rw [if_pos c43] at H
             have c43b0 : (((rd_T40 l0_1 (ji30)).f1) == 0) = true := beq_iff_eq.mpr c43
             have c43b1 : (((rd_T40 l0_1 (ji30)).f1) != 0) = false := bne_eq_false_iff_eq.mpr c43
             clear c43
             by_cases c44 : ((rd_T40 l0_1 (ji30)).f2) = 0
             ·rw [if_pos c44] at H
              have c44b0 : (((rd_T40 l0_1 (ji30)).f2) == 0) = true := beq_iff_eq.mpr c44
              have c44b1 : (((rd_T40 l0_1 (ji30)).f2) != 0) = false := bne_eq_false_iff_eq.mpr c44
              clear c44
              by_cases c45 : ((rd_T40 l0_1 (ji30)).f3) = 0
              ·rw [if_pos c45] at H
               have c45b0 : (((rd_T40 l0_1 (ji30)).f3) == 0) = true := beq_iff_eq.mpr c45
               have c45b1 : (((rd_T40 l0_1 (ji30)).f3) != 0) = false := bne_eq_false_iff_eq.mpr c45
               clear c45
               by_cases c46 : t314 = 11
               ·rw [if_pos c46] at H
                have c46b0 : (t314 == 11) = true := beq_iff_eq.mpr c46
                have c46b1 : (t314 != 11) = false := bne_eq_false_iff_eq.mpr c46
                clear c46
                have H' := Aside0.mk H
                clear H
                have hnb47 := NB322_311.out
                have hnc47 := NB311_322.out
                have hnb48 := NB322_313.out
                have hnc48 := NB313_322.out
                have hnb49 := NB322_320.out
                have hnc49 := NB320_322.out
                have hcz50 := blk_all5 BK322.out
                have hnb51 := NB320_311.out
                have hnc51 := NB311_320.out
                have hnb52 := NB320_313.out
                have hnc52 := NB313_320.out
                have hcz53 := blk_all5 BK320.out
                go_wp2
                go_meet
                case rel => exact ⟨_, ((((rd_T40 l0_1 (ji30)).f4) != 0)), (by first | rfl | (simp; done) | (simp only [← hji30] <;> (first | rfl | simp)) | (simp [*]; done)), H', ⟨by have := HJ6.out; first | omega | exact Nat.le_refl _⟩, ⟨bk_now⟩, ⟨bk_now⟩, ⟨bk_now⟩, ⟨bk_now⟩, ⟨b_now⟩⟩
               ·rw [if_neg c46] at H
                have c46b0 : (t314 == 11) = false := beq_eq_false_iff_ne.mpr c46
                have c46b1 : (t314 != 11) = true := bne_iff_ne.mpr c46
                have H' := Aside0.mk H
                clear H
                have hnb54 := NB322_311.out
                have hnc54 := NB311_322.out
                have hnb55 := NB322_313.out
                have hnc55 := NB313_322.out
                have hnb56 := NB322_320.out
                have hnc56 := NB320_322.out
                have hcz57 := blk_all5 BK322.out
                have hnb58 := NB320_311.out
                have hnc58 := NB311_320.out
                have hnb59 := NB320_313.out
                have hnc59 := NB313_320.out
                have hcz60 := blk_all5 BK320.out
                go_wp2
                go_meet
                case rel => exact ⟨_, (false), eq_now, H', ⟨by have := HJ6.out; first | omega | exact Nat.le_refl _⟩, ⟨bk_now⟩, ⟨bk_now⟩, ⟨bk_now⟩, ⟨bk_now⟩, ⟨b_now⟩⟩
              ·rw [if_neg c45] at H
               have c45b0 : (((rd_T40 l0_1 (ji30)).f3) == 0) = false := beq_eq_false_iff_ne.mpr c45
               have c45b1 : (((rd_T40 l0_1 (ji30)).f3) != 0) = true := bne_iff_ne.mpr c45
               have H' := Aside0.mk H
               clear H
               have hnb61 := NB322_311.out
               have hnc61 := NB311_322.out
               have hnb62 := NB322_313.out
               have hnc62 := NB313_322.out
               have hnb63 := NB322_320.out
               have hnc63 := NB320_322.out
               have hcz64 := blk_all5 BK322.out
               go_wp2
               go_meet
               case rel => exact ⟨_, (true), eq_now, H', ⟨by have := HJ6.out; first | omega | exact Nat.le_refl _⟩, ⟨bk_now⟩, ⟨bk_now⟩, ⟨bk_now⟩, ⟨bk_now⟩, ⟨b_now⟩⟩
             ·rw [if_neg c44] at H
              have c44b0 : (((rd_T40 l0_1 (ji30)).f2) == 0) = false := beq_eq_false_iff_ne.mpr c44
              have c44b1 : (((rd_T40 l0_1 (ji30)).f2) != 0) = true := bne_iff_ne.mpr c44
              have H' := Aside0.mk H
              clear H
              have hnb65 := NB322_311.out
              have hnc65 := NB311_322.out
              have hnb66 := NB322_313.out
              have hnc66 := NB313_322.out
              have hnb67 := NB322_320.out
              have hnc67 := NB320_322.out
              have hcz68 := blk_all5 BK322.out
              go_wp2
              go_meet
              case rel => exact ⟨_, (true), eq_now, H', ⟨by have := HJ6.out; first | omega | exact Nat.le_refl _⟩, ⟨bk_now⟩, ⟨bk_now⟩, ⟨bk_now⟩, ⟨bk_now⟩, ⟨b_now⟩⟩
            ·rw [if_neg c43] at H
             have c43b0 : (((rd_T40 l0_1 (ji30)).f1) == 0) = false := beq_eq_false_iff_ne.mpr c43
             have c43b1 : (((rd_T40 l0_1 (ji30)).f1) != 0) = true := bne_iff_ne.mpr c43
             have H' := Aside0.mk H
             clear H
             have hnb69 := NB322_311.out
             have hnc69 := NB311_322.out
             have hnb70 := NB322_313.out
             have hnc70 := NB313_322.out
             have hnb71 := NB322_320.out
             have hnc71 := NB320_322.out
             have hcz72 := blk_all5 BK322.out
             go_wp2
             go_meet
             case rel => exact ⟨_, (true), eq_now, H', ⟨by have := HJ6.out; first | omega | exact Nat.le_refl _⟩, ⟨bk_now⟩, ⟨bk_now⟩, ⟨bk_now⟩, ⟨bk_now⟩, ⟨b_now⟩⟩
           ·rw [if_neg c42] at H
            have c42b0 : (((rd_T40 l0_1 (ji30)).f0) == 0) = false := beq_eq_false_iff_ne.mpr c42
            have c42b1 : (((rd_T40 l0_1 (ji30)).f0) != 0) = true := bne_iff_ne.mpr c42
            (first | rw [c42b0] | (simp only [i64_w, i32_w]; rw [c42b0]) | skip)
            have H' := Aside0.mk H
            clear H
            have hnb73 := NB322_311.out
            have hnc73 := NB311_322.out
            have hnb74 := NB322_313.out
            have hnc74 := NB313_322.out
            have hnb75 := NB322_320.out
            have hnc75 := NB320_322.out
            have hcz76 := blk_all5 BK322.out
            go_wp2
            go_meet
            case rel => exact ⟨_, (true), eq_now, H', ⟨by have := HJ6.out; first | omega | exact Nat.le_refl _⟩, ⟨bk_now⟩, ⟨bk_now⟩, ⟨bk_now⟩, ⟨bk_now⟩, ⟨b_now⟩⟩
          case rest =>
           clear HC33
           try clear c1
           try clear c2
           try clear p2
           try clear c3
           try clear c3b0
           try clear p3
           try clear q3
           try clear hx3
           try clear c4
           try clear c4b0
           try clear c5
           try clear c6
           try clear c6b0
           try clear c6b1
           try clear p6
           try clear c7
           try clear c11
           try clear c15
           try clear c16
           try clear c18
           try clear c18b0
           try clear c18b1
           try clear c19
           try clear c20
           try clear c22
           try clear c23
           try clear c25
           try clear c26
           try clear c26b0
           try clear c27
           try clear c28
           try clear c29
           try clear c30
           try clear c31
           try clear c31b0
           try clear p31
           try clear q31
           try clear hx31
           try clear c32
           try clear c32b0
           try clear p32
           try clear q32
           try clear hx32
           try clear c34
           try clear c35
           try clear c38
           try clear c39
           try clear c40
           try clear c42
           try clear c42b0
           try clear c42b1
           try clear c43
           try clear c43b0
           try clear c43b1
           try clear c44
           try clear c44b0
           try clear c44b1
           try clear c45
           try clear c45b0
           try clear c45b1
           try clear c46
           try clear c46b0
           try clear c46b1
           try clear c47
           try clear c48
           try clear c49
           try clear c51
           try clear c52
           try clear c54
           try clear c55
           try clear c56
           try clear c58
           try clear c59
           try clear c61
           try clear c62
           try clear c63
           try clear p64
           try clear c65
           try clear c66
           try clear c67
           try clear c69
           try clear c70
           try clear c71
           try clear c73
           try clear c74
           try clear c75
           try clear hcz12
           try clear hcz17
           try clear hcz21
           try clear hcz24
           try clear hcz29
           try clear hcz36
           try clear hcz41
           try clear hcz50
           try clear hcz53
           try clear hcz57
           try clear hcz60
           try clear hcz64
           try clear hcz68
           try clear hcz72
           try clear hcz76
           try clear hcz9
           try clear hx312_0
           try clear hx312_1
           try clear hx312_2
           try clear hx312_3
           try clear hx312_4
           try clear hx321_0
           try clear hx321_1
           try clear hx321_2
           try clear hx321_3
           try clear hx321_4
           try clear p2
           try clear p3
           try clear p312
           try clear p321
           try clear q3
           try clear q312
           try clear q321
           obtain ⟨kq, x69_32, rfl, HA, HJ32, BK311, BK313, BK320, BK322, HB⟩ := hcut
           cases kq with
           | zero => exact absurd HA.out (by simp [stockaderef04_Alone.j1])
           | succ kj32 =>
            have H := HA.out
            clear HA
            simp only [stockaderef04_Alone.j1] at H
            by_cases c77 : x69_32 = true
            ·subst c77
             replace H := sh_t H
             obtain rfl := Option.some.inj H
             go_wp2
             go_ret
             exact ⟨by first | rfl | (simp [errW_none, errW_some] <;> rfl) | (simp only [← hji30]; first | rfl | (simp [errW_none, errW_some] <;> rfl)) | (simp [*, errW_none, errW_some] <;> rfl), b_now⟩
            ·replace c77 := Bool.eq_false_iff.mpr c77
             subst c77
             replace H := sh_f H
             have HC78 := Aside0.mk H
             clear H
             go_upto_region 11 with (fail)
             go_cut [87] (fun v87 wc => ∃ (kq : Nat) (x87_77 : Bool), v87 = .bool x87_77 ∧ Aside0 (stockaderef04_Alone.j2 kq x87_77 ((rd_T40 l0_1 a1).f0) ((rd_T40 l0_1 a1).f1) ((rd_T40 l0_1 a1).f2) ((rd_T40 l0_1 a1).f3) ((rd_T40 l0_1 a1).f4) t314 t315 t316 t317 t318 = some r) ∧ Aside0 (kq ≤ kj32) ∧ Aside0 (wc.heap[gb311]? = some (.cells #[(.slice A0_0 l0_0.length c0_0), (.slice (some ad312) l0_1.length c0_1)] 25 (0, 0))) ∧ Aside0 (wc.heap[gb313]? = some (.cells #[.int .u8 ((rd_T40 l0_1 a1).f0), .int .u8 ((rd_T40 l0_1 a1).f1), .int .u8 ((rd_T40 l0_1 a1).f2), .int .i16 ((rd_T40 l0_1 a1).f3), .int .i32 ((rd_T40 l0_1 a1).f4)] 40 (0, 0))) ∧ Aside0 (wc.heap[gb320]? = some (.cells #[.int .i64 t314, .int .i64 t315, .int .i64 t316, .bool t317, .bool t318] 59 (0, 0))) ∧ Aside0 (wc.heap[gb322]? = some (.cells #[.int .u8 ((rd_T40 l0_1 (ji30)).f0), .int .u8 ((rd_T40 l0_1 (ji30)).f1), .int .u8 ((rd_T40 l0_1 (ji30)).f2), .int .i16 ((rd_T40 l0_1 (ji30)).f3), .int .i32 ((rd_T40 l0_1 (ji30)).f4)] 40 (0, 0))) ∧ Aside0 (Below w.heap.size w wc))
             case first =>
              have H := HC78.out
              clear HC78
              by_cases c79 : t314 = 11
              ·rw [if_pos c79] at H
               have c79b0 : (t314 == 11) = true := beq_iff_eq.mpr c79
               have c79b1 : (t314 != 11) = false := bne_eq_false_iff_eq.mpr c79
               clear c79
               (first | rw [c79b0] | (simp only [i64_w, i32_w]; rw [c79b0]) | skip)
               by_cases c80 : (wrap64 (((rd_T40 l0_1 a1).f4))) < 0
               ·rw [if_pos c80] at H
                have c80b0 : decide ((wrap64 (((rd_T40 l0_1 a1).f4))) < 0) = true := decide_eq_true c80
                clear c80
                have H' := Aside0.mk H
                clear H
                have hnb81 := NB320_311.out
                have hnc81 := NB311_320.out
                have hnb82 := NB320_313.out
                have hnc82 := NB313_320.out
                have hnb83 := NB320_322.out
                have hnc83 := NB322_320.out
                have hcz84 := blk_all5 BK320.out
                have hnb85 := NB313_311.out
                have hnc85 := NB311_313.out
                have hnb86 := NB313_322.out
                have hnc86 := NB322_313.out
                have hcz87 := blk_all5 BK313.out
                go_wp2
                go_meet
                case rel => exact ⟨_, (true), eq_now, H', ⟨by have := HJ6.out; have := HJ32.out; first | omega | exact Nat.le_refl _⟩, ⟨bk_now⟩, ⟨bk_now⟩, ⟨bk_now⟩, ⟨bk_now⟩, ⟨b_now⟩⟩
               ·rw [if_neg c80] at H
                have c80b0 : decide ((wrap64 (((rd_T40 l0_1 a1).f4))) < 0) = false := decide_eq_false c80
                clear c80
                have H' := Aside0.mk H
                clear H
                have hnb88 := NB320_311.out
                have hnc88 := NB311_320.out
                have hnb89 := NB320_313.out
                have hnc89 := NB313_320.out
                have hnb90 := NB320_322.out
                have hnc90 := NB322_320.out
                have hcz91 := blk_all5 BK320.out
                have hnb92 := NB313_311.out
                have hnc92 := NB311_313.out
                have hnb93 := NB313_322.out
                have hnc93 := NB322_313.out
                have hcz94 := blk_all5 BK313.out
                have hnb95 := NB311_322.out
                have hnc95 := NB322_311.out
                have hcz96 := blk_all2 BK311.out
                go_wp2
                go_meet
                case rel => exact ⟨_, (decide ((wrap64 (((rd_T40 l0_1 a1).f4))) ≥ (l0_0.length : Int))), eq_now, H', ⟨by have := HJ6.out; have := HJ32.out; first | omega | exact Nat.le_refl _⟩, ⟨bk_now⟩, ⟨bk_now⟩, ⟨bk_now⟩, ⟨bk_now⟩, ⟨b_now⟩⟩
              ·rw [if_neg c79] at H
               have c79b0 : (t314 == 11) = false := beq_eq_false_iff_ne.mpr c79
               have c79b1 : (t314 != 11) = true := bne_iff_ne.mpr c79
               (first | rw [c79b0] | (simp only [i64_w, i32_w]; rw [c79b0]) | skip)
               have H' := Aside0.mk H
               clear H
               have hnb97 := NB320_311.out
               have hnc97 := NB311_320.out
               have hnb98 := NB320_313.out
               have hnc98 := NB313_320.out
               have hnb99 := NB320_322.out
               have hnc99 := NB322_320.out
               have hcz100 := blk_all5 BK320.out
               go_wp2
               go_meet
               case rel => exact ⟨_, (false), eq_now, H', ⟨by have := HJ6.out; have := HJ32.out; first | omega | exact Nat.le_refl _⟩, ⟨bk_now⟩, ⟨bk_now⟩, ⟨bk_now⟩, ⟨bk_now⟩, ⟨b_now⟩⟩
             case rest =>
              clear HC78
              try clear c1
              try clear c2
              try clear p2
              try clear c3
              try clear c3b0
              try clear p3
              try clear q3
              try clear hx3
              try clear c4
              try clear c4b0
              try clear c5
              try clear c6
              try clear c6b0
              try clear c6b1
              try clear p6
              try clear c7
              try clear c8
              try clear c9
              try clear c11
              try clear c15
              try clear c16
              try clear c18
              try clear c18b0
              try clear c18b1
              try clear c19
              try clear c20
              try clear c22
              try clear c23
              try clear c25
              try clear c26
              try clear c26b0
              try clear c27
              try clear c28
              try clear c29
              try clear c30
              try clear c31
              try clear c31b0
              try clear p31
              try clear q31
              try clear hx31
              try clear c32
              try clear c32b0
              try clear p32
              try clear q32
              try clear hx32
              try clear c34
              try clear c35
              try clear c38
              try clear c39
              try clear c40
              try clear c42
              try clear c42b0
              try clear c42b1
              try clear c43
              try clear c43b0
              try clear c43b1
              try clear c44
              try clear c44b0
              try clear c44b1
              try clear c45
              try clear c45b0
              try clear c45b1
              try clear c46
              try clear c46b0
              try clear c46b1
              try clear c47
              try clear c48
              try clear c49
              try clear c51
              try clear c52
              try clear c54
              try clear c55
              try clear c56
              try clear c58
              try clear c59
              try clear c61
              try clear c62
              try clear c63
              try clear p64
              try clear c65
              try clear c66
              try clear c67
              try clear c69
              try clear c70
              try clear c71
              try clear c73
              try clear c74
              try clear c75
              try clear c77
              try clear c79
              try clear c79b0
              try clear c79b1
              try clear c80
              try clear c80b0
              try clear c81
              try clear c82
              try clear c83
              try clear c85
              try clear c86
              try clear c88
              try clear c89
              try clear c90
              try clear c92
              try clear c93
              try clear c95
              try clear c97
              try clear c98
              try clear c99
              try clear hcz100
              try clear hcz12
              try clear hcz17
              try clear hcz21
              try clear hcz24
              try clear hcz29
              try clear hcz36
              try clear hcz41
              try clear hcz50
              try clear hcz53
              try clear hcz57
              try clear hcz60
              try clear hcz64
              try clear hcz68
              try clear hcz72
              try clear hcz76
              try clear hcz84
              try clear hcz87
              try clear hcz91
              try clear hcz94
              try clear hcz96
              try clear hcz9
              try clear hx312_0
              try clear hx312_1
              try clear hx312_2
              try clear hx312_3
              try clear hx312_4
              try clear hx321_0
              try clear hx321_1
              try clear hx321_2
              try clear hx321_3
              try clear hx321_4
              try clear p2
              try clear p3
              try clear p31
              try clear p312
              try clear p32
              try clear p321
              try clear p6
              try clear p64
              try clear q3
              try clear q31
              try clear q312
              try clear q32
              try clear q321
              obtain ⟨kq, x87_77, rfl, HA, HJ77, BK311, BK313, BK320, BK322, HB⟩ := hcut
              cases kq with
              | zero => exact absurd HA.out (by simp [stockaderef04_Alone.j2])
              | succ kj77 =>
               have H := HA.out
               clear HA
               simp only [stockaderef04_Alone.j2] at H
               by_cases c101 : x87_77 = true
               ·subst c101
                replace H := sh_t H
                obtain rfl := Option.some.inj H
                go_wp2
                go_ret
                exact ⟨by first | rfl | (simp [errW_none, errW_some] <;> rfl) | (simp only [← hji30]; first | rfl | (simp [errW_none, errW_some] <;> rfl)) | (simp [*, errW_none, errW_some] <;> rfl), b_now⟩
               ·replace c101 := Bool.eq_false_iff.mpr c101
                subst c101
                replace H := sh_f H
                by_cases c102 : t314 = 8
                ·rw [if_pos c102] at H
                 have c102b0 : (t314 == 8) = true := beq_iff_eq.mpr c102
                 have c102b1 : (t314 != 8) = false := bne_eq_false_iff_eq.mpr c102
                 clear c102
                 replace H := Option.bind_eq_some_iff.mp H; obtain ⟨t323, A1030, H⟩ := H; try dsimp only at H
                 have A103 := Aside0.mk A1030
                 clear A1030
                 by_cases c104 : t323 = true
                 ·subst c104
                  replace H := sh_t H
                  obtain rfl := Option.some.inj H
                  have hnb105 := NB320_311.out
                  have hnc105 := NB311_320.out
                  have hnb106 := NB320_313.out
                  have hnc106 := NB313_320.out
                  have hnb107 := NB320_322.out
                  have hnc107 := NB322_320.out
                  have hcz108 := blk_all5 BK320.out
                  have hnb109 := NB313_311.out
                  have hnc109 := NB311_313.out
                  have hnb110 := NB313_322.out
                  have hnc110 := NB322_313.out
                  have hcz111 := blk_all5 BK313.out
                  go_wp2_with (first | (go_at_call 18; (with_reducible refine (stockaderef04_Helper.calls ((rd_T40 l0_1 a1).f4) true _ A103.out).mono ?_); rintro e w' ⟨rfl, ⟨nd, rfl⟩⟩))
                  go_ret
                  exact ⟨by first | rfl | (simp [errW_none, errW_some] <;> rfl) | (simp only [← hji30]; first | rfl | (simp [errW_none, errW_some] <;> rfl)) | (simp [*, errW_none, errW_some] <;> rfl), b_now⟩
                 ·replace c104 := Bool.eq_false_iff.mpr c104
                  subst c104
                  replace H := sh_f H
                  obtain rfl := Option.some.inj H
                  have hnb112 := NB320_311.out
                  have hnc112 := NB311_320.out
                  have hnb113 := NB320_313.out
                  have hnc113 := NB313_320.out
                  have hnb114 := NB320_322.out
                  have hnc114 := NB322_320.out
                  have hcz115 := blk_all5 BK320.out
                  have hnb116 := NB313_311.out
                  have hnc116 := NB311_313.out
                  have hnb117 := NB313_322.out
                  have hnc117 := NB322_313.out
                  have hcz118 := blk_all5 BK313.out
                  go_wp2_with (first | (go_at_call 18; (with_reducible refine (stockaderef04_Helper.calls ((rd_T40 l0_1 a1).f4) false _ A103.out).mono ?_); rintro e w' ⟨rfl, ⟨nd, rfl⟩⟩))
                  go_ret
                  exact ⟨by first | rfl | (simp [errW_none, errW_some] <;> rfl) | (simp only [← hji30]; first | rfl | (simp [errW_none, errW_some] <;> rfl)) | (simp [*, errW_none, errW_some] <;> rfl), b_now⟩
                ·rw [if_neg c102] at H
                 have c102b0 : (t314 == 8) = false := beq_eq_false_iff_ne.mpr c102
                 have c102b1 : (t314 != 8) = true := bne_iff_ne.mpr c102
                 obtain rfl := Option.some.inj H
                 have hnb119 := NB320_311.out
                 have hnc119 := NB311_320.out
                 have hnb120 := NB320_313.out
                 have hnc120 := NB313_320.out
                 have hnb121 := NB320_322.out
                 have hnc121 := NB322_320.out
                 have hcz122 := blk_all5 BK320.out
                 go_wp2
                 go_ret
                 exact ⟨by first | rfl | (simp [errW_none, errW_some] <;> rfl) | (simp only [← hji30]; first | rfl | (simp [errW_none, errW_some] <;> rfl)) | (simp [*, errW_none, errW_some] <;> rfl), b_now⟩
         ·rw [if_neg c32] at H
          exact absurd H (by simp)
        ·rw [if_neg c31] at H
         exact absurd H (by simp)
      ·replace c25 := Bool.eq_false_iff.mpr c25
       subst c25
       replace H := sh_f H
       by_cases c123 : t314 = 8
       ·rw [if_pos c123] at H
        have c123b0 : (t314 == 8) = true := beq_iff_eq.mpr c123
        have c123b1 : (t314 != 8) = false := bne_eq_false_iff_eq.mpr c123
        clear c123
        replace H := Option.bind_eq_some_iff.mp H; obtain ⟨t324, A1240, H⟩ := H; try dsimp only at H
        have A124 := Aside0.mk A1240
        clear A1240
        by_cases c125 : t324 = true
        ·subst c125
         replace H := sh_t H
         obtain rfl := Option.some.inj H
         have hnb126 := NB320_311.out
         have hnc126 := NB311_320.out
         have hnb127 := NB320_313.out
         have hnc127 := NB313_320.out
         have hcz128 := blk_all5 BK320.out
         have hnb129 := NB313_311.out
         have hnc129 := NB311_313.out
         have hcz130 := blk_all5 BK313.out
         go_wp2_with (first | (go_at_call 18; (with_reducible refine (stockaderef04_Helper.calls ((rd_T40 l0_1 a1).f4) true _ A124.out).mono ?_); rintro e w' ⟨rfl, ⟨nd, rfl⟩⟩))
         go_ret
         exact ⟨ret_now, b_now⟩
        ·replace c125 := Bool.eq_false_iff.mpr c125
         subst c125
         replace H := sh_f H
         obtain rfl := Option.some.inj H
         have hnb131 := NB320_311.out
         have hnc131 := NB311_320.out
         have hnb132 := NB320_313.out
         have hnc132 := NB313_320.out
         have hcz133 := blk_all5 BK320.out
         have hnb134 := NB313_311.out
         have hnc134 := NB311_313.out
         have hcz135 := blk_all5 BK313.out
         go_wp2_with (first | (go_at_call 18; (with_reducible refine (stockaderef04_Helper.calls ((rd_T40 l0_1 a1).f4) false _ A124.out).mono ?_); rintro e w' ⟨rfl, ⟨nd, rfl⟩⟩))
         go_ret
         exact ⟨ret_now, b_now⟩
       ·rw [if_neg c123] at H
        have c123b0 : (t314 == 8) = false := beq_eq_false_iff_ne.mpr c123
        have c123b1 : (t314 != 8) = true := bne_iff_ne.mpr c123
        obtain rfl := Option.some.inj H
        have hnb136 := NB320_311.out
        have hnc136 := NB311_320.out
        have hnb137 := NB320_313.out
        have hnc137 := NB313_320.out
        have hcz138 := blk_all5 BK320.out
        go_wp2
        go_ret
        exact ⟨ret_now, b_now⟩
   ·rw [if_neg c6] at H
    have c6b0 : (t319 == 0) = false := beq_eq_false_iff_ne.mpr c6
    have c6b1 : (t319 != 0) = true := bne_iff_ne.mpr c6
    obtain rfl := Option.some.inj H
    go_enter Tryd.func29, Tryd.ntmps29
    go_wp2_with (first | ((with_reducible refine gate_dst (N := 2) rfl ?_); (try (refine gate_guard (by rfl) ?_; dsimp only)); refine sh_box 2 #[.slice A0_0 l0_0.length c0_0, .slice A0_1 l0_1.length c0_1] 25 ?_; intro gb311 hg w139 hbox hb; have GE311 := sh_z (w := w) hg; replace HB := sh_b (w := w) hb; have BK311 := Aside0.mk (hbox); clear hb hbox hg; have hcz140 := blk_all2 BK311.out; have p312 : 0 ≤ (a1 : Int) := of_decide_eq_true (by first | (with_reducible assumption) | assumption); have q312 : a1 < (l0_1.length : Int) := of_decide_eq_true (by first | (with_reducible assumption) | assumption); obtain ⟨ad312, e312, hx312_0, hx312_1, hx312_2, hx312_3, hx312_4⟩ := at_T40 HR0_1.out a1 p312 q312; cases e312; replace hx312_0 := (HB.out.cell (World.block_lt_of_cell? w _ hx312_0)).trans hx312_0; replace hx312_1 := (HB.out.cell (World.block_lt_of_cell? w _ hx312_1)).trans hx312_1; replace hx312_2 := (HB.out.cell (World.block_lt_of_cell? w _ hx312_2)).trans hx312_2; replace hx312_3 := (HB.out.cell (World.block_lt_of_cell? w _ hx312_3)).trans hx312_3; replace hx312_4 := (HB.out.cell (World.block_lt_of_cell? w _ hx312_4)).trans hx312_4; replace p312 := eq_true p312; replace q312 := eq_true q312) | ((with_reducible refine gate_dst (N := 5) rfl ?_); (try (refine gate_guard (by rfl) ?_; dsimp only)); refine sh_box 5 #[.int .u8 0, .int .u8 0, .int .u8 0, .int .i16 0, .int .i32 0] 40 ?_; intro gb313 hg w141 hbox hb; have GE313 := sh_z (w := w) hg; have NB311_313 := sh_n BK311 hg; have NB313_311 := sh_s NB311_313; replace BK311 := sh_k BK311 hb; replace HB := sh_b (w := w) hb; have BK313 := Aside0.mk (hbox); clear hb hbox hg; have hnb142 := NB313_311.out; have hnc142 := NB311_313.out; have hcz143 := blk_all5 BK313.out) | ((with_reducible refine gate_callee (f := 30) rfl ?_); refine sh_call (some 16) Tryd.func30 #[.agg #[.int .u8 ((rd_T40 l0_1 a1).f0), .int .u8 ((rd_T40 l0_1 a1).f1), .int .u8 ((rd_T40 l0_1 a1).f2), .int .i16 ((rd_T40 l0_1 a1).f3), .int .i32 ((rd_T40 l0_1 a1).f4)]] ?_; (with_reducible refine (stockaderef02_Of.calls k ((rd_T40 l0_1 a1).f0) ((rd_T40 l0_1 a1).f1) ((rd_T40 l0_1 a1).f2) ((rd_T40 l0_1 a1).f3) ((rd_T40 l0_1 a1).f4) t314 t315 t316 t317 t318 t319 _ A5.out).mono ?_); rintro e w144 ⟨rfl, hb⟩; refine ⟨_, rfl, ?_⟩; replace BK311 := sh_kp (g := gb311) (t := 25) #[.slice A0_0 l0_0.length c0_0, .slice (some ad312) l0_1.length c0_1] hb; replace BK313 := sh_kp (g := gb313) (t := 40) #[.int .u8 ((rd_T40 l0_1 a1).f0), .int .u8 ((rd_T40 l0_1 a1).f1), .int .u8 ((rd_T40 l0_1 a1).f2), .int .i16 ((rd_T40 l0_1 a1).f3), .int .i32 ((rd_T40 l0_1 a1).f4)] hb; replace HB := sh_b (w := w) hb; (try clear hb); (try clear hb2); (try clear hk); (try clear hi)) | ((with_reducible refine gate_dst (N := 6) rfl ?_); (try (refine gate_guard (by rfl) ?_; dsimp only)); refine sh_box 6 #[.int .i64 0, .int .i64 0, .int .i64 0, .bool false, .bool false] 59 ?_; intro gb320 hg w145 hbox hb; have GE320 := sh_z (w := w) hg; have NB311_320 := sh_n BK311 hg; have NB313_320 := sh_n BK313 hg; have NB320_311 := sh_s NB311_320; have NB320_313 := sh_s NB313_320; replace BK311 := sh_k BK311 hb; replace BK313 := sh_k BK313 hb; replace HB := sh_b (w := w) hb; have BK320 := Aside0.mk (hbox); clear hb hbox hg; have hnb146 := NB320_311.out; have hnc146 := NB311_320.out; have hnb147 := NB320_313.out; have hnc147 := NB313_320.out; have hcz148 := blk_all5 BK320.out))
    go_ret
    exact ⟨ret_now, b_now⟩
  ·rw [if_neg c4] at H
   exact absurd H (by simp)
 ·rw [if_neg c3] at H
  exact absurd H (by simp)

end Go.Proofs.YtdhiibkcoolbeaaDoor.P
