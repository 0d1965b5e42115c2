/- Made by this session's driver over the kit's printer: for each Go function a Lean function with the same answers, and a proof that the Go call comes to these answers; no conditions but the ones each theorem names. -/
import Derived.Test.YtighficpbplkhaaDoorPx0
import Derived.Test.YtighficpbplkhaaDoorPx2
import Derived.Test.YtighficpbplkhaaDoorPx4
import Derived.Test.YtighficpbplkhaaDoorPx11
import Derived.Test.YtighficpbplkhaaDoorPx21
namespace Go.Proofs.YtighficpbplkhaaDoor.P
open Go.RowKit Go.Proofs.YtighficpbplkhaaDoorW.PrintWords Go.Proofs.YtighficpbplkhaaDoorW.PrintLast Go.Proofs.YtighficpbplkhaaDoorW.PrintMore
attribute [local go_sem] max2_int min2_int max_two min_two max_three min_three max_four min_four   -- for this text's walks alone
set_option linter.unusedVariables false
set_option linter.unusedSimpArgs false

/-! ### stockadelaw18_RuleNear: function 8 -/
mutual
def stockadelaw18_RuleNear.j0 : Nat → List (S46) → Int → Int → Bool → List Int → Int → Option (Bool)
 | 0, _, _, _, _, _, _ => none
 | k + 1, x0, x2, x3, x30, x586000, x586001 => if x30 = true then ((stockadelaw18_wakes.f k).bind fun t587 => (some t587)) else ((stockadelaw18_Table.f k x0).bind fun t588 => (stockadelaw18_RuleNear.l0 k x2 x3 t588 0 x586000 x586001))
def stockadelaw18_RuleNear.l0 : Nat → Int → Int → List (S53) → Int → List Int → Int → Option (Bool)
 | 0, _, _, _, _, _, _ => none
 | k + 1, x2, x3, x9, x10, x586000, x586001 => if x10 < (x9.length : Int) then (stockadelaw18_RuleNear.l1 k x2 x3 x9 x10 0 x586000 x586001) else (if (x586000.length : Int) ≤ 337 then ((stockadelaw18_wakes.f k).bind fun t606 => (some t606)) else (if ([] : List Int).length + x586000.length < 140737488355328 then ((some (([] : List Int) ++ x586000 : List Int)).bind fun y607 => (if (wrap64 ((y607.length : Int) - 337)) = 0 then (none) else (if 0 ≤ (wrap64 (337 + (Int.tmod (wrap64 (x2)) (wrap64 ((y607.length : Int) - 337))))) then (if (wrap64 (337 + (Int.tmod (wrap64 (x2)) (wrap64 ((y607.length : Int) - 337))))) < (y607.length : Int) then ((rule_Judge.f k x9 x586000 x586001).bind fun bt611 => ((rule_Judge.f k x9 (y607.set ((wrap64 (337 + (Int.tmod (wrap64 (x2)) (wrap64 ((y607.length : Int) - 337))))) : Int).toNat x3) x586001).bind fun bt613 => (if bt611.1 = bt613.1 then (if bt611.2 = bt613.2 then ((stockadelaw18_wakes.f k).bind fun t615 => (some t615)) else (some false)) else (some false)))) else (none)) else (none)))) else (none)))
def stockadelaw18_RuleNear.l1 : Nat → Int → Int → List (S53) → Int → Int → List Int → Int → Option (Bool)
 | 0, _, _, _, _, _, _, _ => none
 | k + 1, x2, x3, x9, x10, x11, x586000, x586001 => if 0 ≤ x10 then (if x10 < (x9.length : Int) then (if x11 < (((rd_T53 x9 x10).f0).length : Int) then (if 0 ≤ x11 then ((rule_Holds.f k ((rd_T50 ((rd_T53 x9 x10).f0) x11).f0) ((rd_T50 ((rd_T53 x9 x10).f0) x11).f1) ((rd_T50 ((rd_T53 x9 x10).f0) x11).f2) ((rd_T50 ((rd_T53 x9 x10).f0) x11).f3) ((rd_T50 ((rd_T53 x9 x10).f0) x11).f4) ((rd_T50 ((rd_T53 x9 x10).f0) x11).f5) ((rd_T50 ((rd_T53 x9 x10).f0) x11).f6) x586000 x586001).bind fun t596 => ((rule_Holds.f k (!((rd_T50 ((rd_T53 x9 x10).f0) x11).f0)) ((rd_T50 ((rd_T53 x9 x10).f0) x11).f1) ((rd_T50 ((rd_T53 x9 x10).f0) x11).f2) ((rd_T50 ((rd_T53 x9 x10).f0) x11).f3) ((rd_T50 ((rd_T53 x9 x10).f0) x11).f4) ((rd_T50 ((rd_T53 x9 x10).f0) x11).f5) ((rd_T50 ((rd_T53 x9 x10).f0) x11).f6) x586000 x586001).bind fun t597 => ((rule_Check.f k (([(⟨(([(⟨(rd_T50 ((rd_T53 x9 x10).f0) x11).f0, (rd_T50 ((rd_T53 x9 x10).f0) x11).f1, (rd_T50 ((rd_T53 x9 x10).f0) x11).f2, (rd_T50 ((rd_T53 x9 x10).f0) x11).f3, (rd_T50 ((rd_T53 x9 x10).f0) x11).f4, (rd_T50 ((rd_T53 x9 x10).f0) x11).f5, (rd_T50 ((rd_T53 x9 x10).f0) x11).f6⟩ : S50)] : List (S50))), 0⟩ : S53)] : List (S53)))).bind fun bt604 => (if t596 = true then (if t597 = true then (some false) else (if (true != (bt604.2 == 0)) = true then (some false) else (stockadelaw18_RuleNear.l1 k x2 x3 x9 x10 (wrap64 (x11 + 1)) x586000 x586001))) else (if (t597 != (bt604.2 == 0)) = true then (some false) else (stockadelaw18_RuleNear.l1 k x2 x3 x9 x10 (wrap64 (x11 + 1)) x586000 x586001)))))) else (none)) else (stockadelaw18_RuleNear.l0 k x2 x3 x9 (wrap64 (x10 + 1)) x586000 x586001)) else (none)) else (none)
end
def stockadelaw18_RuleNear.f (k : Nat) (l0 : List (S46)) (l1_0 : List Int) (a1_1 : Int) (a2 : Int) (a3 : Int) : Option (Bool) := (stockadelaw18_large.f k l0).bind fun t586 => (if t586 = true then (stockadelaw18_RuleNear.j0 k l0 a2 a3 true l1_0 a1_1) else (stockadelaw18_RuleNear.j0 k l0 a2 a3 (decide ((l1_0.length : Int) > 3000)) l1_0 a1_1))
theorem stockadelaw18_RuleNear.mono_l : ∀ k, (∀ y0 y1 y2 y3 y4 y5, LeO (stockadelaw18_RuleNear.j0 k y0 y1 y2 y3 y4 y5) (stockadelaw18_RuleNear.j0 (k + 1) y0 y1 y2 y3 y4 y5)) ∧ (∀ y0 y1 y2 y3 y4 y5, LeO (stockadelaw18_RuleNear.l0 k y0 y1 y2 y3 y4 y5) (stockadelaw18_RuleNear.l0 (k + 1) y0 y1 y2 y3 y4 y5)) ∧ (∀ y0 y1 y2 y3 y4 y5 y6, LeO (stockadelaw18_RuleNear.l1 k y0 y1 y2 y3 y4 y5 y6) (stockadelaw18_RuleNear.l1 (k + 1) y0 y1 y2 y3 y4 y5 y6))
 | 0 => ⟨fun _ _ _ _ _ _ r h => by simp [stockadelaw18_RuleNear.j0] at h, fun _ _ _ _ _ _ r h => by simp [stockadelaw18_RuleNear.l0] at h, fun _ _ _ _ _ _ _ r h => by simp [stockadelaw18_RuleNear.l1] at h⟩
 | k + 1 => by
  obtain ⟨ih0, ih1, ih2⟩ := stockadelaw18_RuleNear.mono_l k
  refine ⟨?_, ?_, ?_⟩
  ·intro y0 y1 y2 y3 y4 y5
   unfold stockadelaw18_RuleNear.j0
   repeat' first
   | (with_reducible exact ih0 _ _ _ _ _ _)
   | (with_reducible exact ih1 _ _ _ _ _ _)
   | (with_reducible exact ih2 _ _ _ _ _ _ _)
   | (with_reducible exact rule_Check.mono _ _)
   | (with_reducible exact rule_Holds.mono _ _ _ _ _ _ _ _ _ _)
   | (with_reducible exact rule_Judge.mono _ _ _ _)
   | (with_reducible exact stockadelaw18_Table.mono _ _)
   | (with_reducible exact stockadelaw18_large.mono _ _)
   | (with_reducible exact stockadelaw18_wakes.mono _)
   | (with_reducible exact LeO.refl _)
   | (with_reducible exact LeO.none _)
   | (with_reducible refine LeO.ite ?_ ?_)
   | (with_reducible refine LeO.bind ?_ (fun _ => ?_))
   | exact ih0 _ _ _ _ _ _
   | exact ih1 _ _ _ _ _ _
   | exact ih2 _ _ _ _ _ _ _
   | exact rule_Check.mono _ _
   | exact rule_Holds.mono _ _ _ _ _ _ _ _ _ _
   | exact rule_Judge.mono _ _ _ _
   | exact stockadelaw18_Table.mono _ _
   | exact stockadelaw18_large.mono _ _
   | exact stockadelaw18_wakes.mono _
   | exact LeO.none _
   | refine LeO.ite ?_ ?_
   | refine LeO.bind ?_ (fun _ => ?_)
  ·intro y0 y1 y2 y3 y4 y5
   unfold stockadelaw18_RuleNear.l0
   repeat' first
   | (with_reducible exact ih0 _ _ _ _ _ _)
   | (with_reducible exact ih1 _ _ _ _ _ _)
   | (with_reducible exact ih2 _ _ _ _ _ _ _)
   | (with_reducible exact rule_Check.mono _ _)
   | (with_reducible exact rule_Holds.mono _ _ _ _ _ _ _ _ _ _)
   | (with_reducible exact rule_Judge.mono _ _ _ _)
   | (with_reducible exact stockadelaw18_Table.mono _ _)
   | (with_reducible exact stockadelaw18_large.mono _ _)
   | (with_reducible exact stockadelaw18_wakes.mono _)
   | (with_reducible exact LeO.refl _)
   | (with_reducible exact LeO.none _)
   | (with_reducible refine LeO.ite ?_ ?_)
   | (with_reducible refine LeO.bind ?_ (fun _ => ?_))
   | exact ih0 _ _ _ _ _ _
   | exact ih1 _ _ _ _ _ _
   | exact ih2 _ _ _ _ _ _ _
   | exact rule_Check.mono _ _
   | exact rule_Holds.mono _ _ _ _ _ _ _ _ _ _
   | exact rule_Judge.mono _ _ _ _
   | exact stockadelaw18_Table.mono _ _
   | exact stockadelaw18_large.mono _ _
   | exact stockadelaw18_wakes.mono _
   | exact LeO.none _
   | refine LeO.ite ?_ ?_
   | refine LeO.bind ?_ (fun _ => ?_)
  ·intro y0 y1 y2 y3 y4 y5 y6
   unfold stockadelaw18_RuleNear.l1
   repeat' first
   | (with_reducible exact ih0 _ _ _ _ _ _)
   | (with_reducible exact ih1 _ _ _ _ _ _)
   | (with_reducible exact ih2 _ _ _ _ _ _ _)
   | (with_reducible exact rule_Check.mono _ _)
   | (with_reducible exact rule_Holds.mono _ _ _ _ _ _ _ _ _ _)
   | (with_reducible exact rule_Judge.mono _ _ _ _)
   | (with_reducible exact stockadelaw18_Table.mono _ _)
   | (with_reducible exact stockadelaw18_large.mono _ _)
   | (with_reducible exact stockadelaw18_wakes.mono _)
   | (with_reducible exact LeO.refl _)
   | (with_reducible exact LeO.none _)
   | (with_reducible refine LeO.ite ?_ ?_)
   | (with_reducible refine LeO.bind ?_ (fun _ => ?_))
   | exact ih0 _ _ _ _ _ _
   | exact ih1 _ _ _ _ _ _
   | exact ih2 _ _ _ _ _ _ _
   | exact rule_Check.mono _ _
   | exact rule_Holds.mono _ _ _ _ _ _ _ _ _ _
   | exact rule_Judge.mono _ _ _ _
   | exact stockadelaw18_Table.mono _ _
   | exact stockadelaw18_large.mono _ _
   | exact stockadelaw18_wakes.mono _
   | exact LeO.none _
   | refine LeO.ite ?_ ?_
   | refine LeO.bind ?_ (fun _ => ?_)
theorem stockadelaw18_RuleNear.mono : ∀ a0 a1 a2 a3 a4 k, LeO (stockadelaw18_RuleNear.f k a0 a1 a2 a3 a4) (stockadelaw18_RuleNear.f (k + 1) a0 a1 a2 a3 a4) := by
 intro a0 a1 a2 a3 a4 k
 obtain ⟨ih0, ih1, ih2⟩ := stockadelaw18_RuleNear.mono_l k
 unfold stockadelaw18_RuleNear.f
 repeat' first
   | (with_reducible exact ih0 _ _ _ _ _ _)
   | (with_reducible exact ih1 _ _ _ _ _ _)
   | (with_reducible exact ih2 _ _ _ _ _ _ _)
   | (with_reducible exact rule_Check.mono _ _)
   | (with_reducible exact rule_Holds.mono _ _ _ _ _ _ _ _ _ _)
   | (with_reducible exact rule_Judge.mono _ _ _ _)
   | (with_reducible exact stockadelaw18_Table.mono _ _)
   | (with_reducible exact stockadelaw18_large.mono _ _)
   | (with_reducible exact stockadelaw18_wakes.mono _)
   | (with_reducible exact LeO.refl _)
   | (with_reducible exact LeO.none _)
   | (with_reducible refine LeO.ite ?_ ?_)
   | (with_reducible refine LeO.bind ?_ (fun _ => ?_))
   | exact ih0 _ _ _ _ _ _
   | exact ih1 _ _ _ _ _ _
   | exact ih2 _ _ _ _ _ _ _
   | exact rule_Check.mono _ _
   | exact rule_Holds.mono _ _ _ _ _ _ _ _ _ _
   | exact rule_Judge.mono _ _ _ _
   | exact stockadelaw18_Table.mono _ _
   | exact stockadelaw18_large.mono _ _
   | exact stockadelaw18_wakes.mono _
   | exact LeO.none _
   | refine LeO.ite ?_ ?_
   | refine LeO.bind ?_ (fun _ => ?_)
set_option maxHeartbeats 8000000 in
set_option maxRecDepth 100000 in
theorem stockadelaw18_RuleNear.calls (k : Nat) (A0 : Option Addr) (c0 : Nat) (l0 : List (S46)) (A1_0 : Option Addr) (c1_0 : Nat) (l1_0 : List Int) (a1_1 : Int) (a2 : Int) (a3 : Int) (r : Bool) (w : World) (hr0 : Kd.C k46 w A0 l0.length l0) (hc0 : l0.length ≤ c0) (hr1_0 : Kd.C (Kd.int .u8) w A1_0 l1_0.length l1_0) (hc1_0 : l1_0.length ≤ c1_0) (hrG0 : Kd.C kGF w (some ⟨0, 0, none⟩) gl0.length gl0) (hr_ : r = true) (h : stockadelaw18_RuleNear.f k l0 l1_0 a1_1 a2 a3 = some r) :
  Calls Tryd.prog 8 #[.slice A0 l0.length c0, .agg #[.slice A1_0 l1_0.length c1_0, .int .u32 a1_1], .int .u16 a2, .int .u8 a3] w fun e w' => e = .returned (.bool r) ∧ Below w.heap.size w w' := by
 have hu40 := Tryd.underlying40
 have hu50 := Tryd.underlying50
 have hu53 := Tryd.underlying53
 have HR0 := Aside0.mk hr0
 have HC0 := Aside0.mk hc0
 clear hr0 hc0
 have HR1_0 := Aside0.mk hr1_0
 have HC1_0 := Aside0.mk hc1_0
 clear hr1_0 hc1_0
 have HRG0 := Aside0.mk hrG0
 clear hrG0
 have HRT := Aside0.mk hr_
 clear hr_
 have HB := Aside0.mk (Below.refl w.heap.size w)
 have H : ((stockadelaw18_large.f k l0).bind fun t586 => (if t586 = true then (stockadelaw18_RuleNear.j0 k l0 a2 a3 true l1_0 a1_1) else (stockadelaw18_RuleNear.j0 k l0 a2 a3 (decide ((l1_0.length : Int) > 3000)) l1_0 a1_1))) = some r := h
 clear h
 have HC5 := Aside0.mk H
 clear H
 go_enter Tryd.func8, Tryd.ntmps8
 go_upto_region 1 with (first | ((with_reducible refine gate_dst (N := 5) rfl ?_); (try (refine gate_guard (by rfl) ?_; dsimp only)); refine sh_box 5 #[.slice A1_0 l1_0.length c1_0, .int .u32 a1_1] 40 ?_; intro gb585 hg w6 hbox hb; have GE585 := sh_z (w := w) hg; replace HB := sh_b (w := w) hb; have BK585 := Aside0.mk (hbox); clear hb hbox hg))
 (try simp only [Act.put, List.setIfInBounds_toArray, List.set_cons_zero, List.set_cons_succ])
 go_cut [30] (fun v30 wc => ∃ (kq : Nat) (x30_4 : Bool), v30 = .bool x30_4 ∧ Aside0 (stockadelaw18_RuleNear.j0 kq l0 a2 a3 x30_4 l1_0 a1_1 = some r) ∧ Aside0 (kq ≤ k) ∧ Aside0 (wc.heap[gb585]? = some (.cells #[(.slice A1_0 l1_0.length c1_0), .int .u32 a1_1] 40 (0, 0))) ∧ Aside0 (Below w.heap.size w wc))
 case first =>
  have H := HC5.out
  clear HC5
  replace H := Option.bind_eq_some_iff.mp H; obtain ⟨t586, A70, H⟩ := H; try dsimp only at H
  have A7 := Aside0.mk A70
  clear A70
  by_cases c8 : t586 = true
  ·subst c8
   replace H := sh_t H
   have H' := Aside0.mk H
   clear H
   go_wp2_with (first | ((with_reducible refine gate_callee (f := 10) rfl ?_); refine sh_call (some 24) Tryd.func10 #[.slice A0 l0.length c0] ?_; (with_reducible refine (stockadelaw18_large.calls k _ _ l0 true _ ?side1 ?side2 A7.out).mono ?_); (case side1 => repeat (first | exact (Kd.C_below HR0.out HB.out) | (with_reducible refine Kd.C_alloc ?_ _) | (with_reducible refine Kd.C_drewN ?_ _) | (with_reducible refine Kd.C_drew ?_))); (case side2 => exact HC0.out); rintro e w' ⟨rfl, ⟨nd, rfl⟩⟩; refine ⟨_, rfl, ?_⟩))
   go_meet
   case rel => exact ⟨_, (true), eq_now, H', ⟨by first | omega | exact Nat.le_refl _⟩, ⟨bk_now⟩, ⟨b_now⟩⟩
  ·replace c8 := Bool.eq_false_iff.mpr c8
   subst c8
   replace H := sh_f H
   have H' := Aside0.mk H
   clear H
   go_wp2_with (first | ((with_reducible refine gate_callee (f := 10) rfl ?_); refine sh_call (some 24) Tryd.func10 #[.slice A0 l0.length c0] ?_; (with_reducible refine (stockadelaw18_large.calls k _ _ l0 false _ ?side1 ?side2 A7.out).mono ?_); (case side1 => repeat (first | exact (Kd.C_below HR0.out HB.out) | (with_reducible refine Kd.C_alloc ?_ _) | (with_reducible refine Kd.C_drewN ?_ _) | (with_reducible refine Kd.C_drew ?_))); (case side2 => exact HC0.out); rintro e w' ⟨rfl, ⟨nd, rfl⟩⟩; refine ⟨_, rfl, ?_⟩; have hcz9 := blk_all2 BK585.out))
   go_meet
   case rel => exact ⟨_, (decide ((l1_0.length : Int) > 3000)), eq_now, H', ⟨by first | omega | exact Nat.le_refl _⟩, ⟨bk_now⟩, ⟨b_now⟩⟩
 case rest =>
  clear HC5
  try clear c1
  try clear p2
  try clear c8
  try clear hcz9
  obtain ⟨kq, x30_4, rfl, HA, HJ4, BK585, HB⟩ := hcut
  cases kq with
  | zero => exact absurd HA.out (by simp [stockadelaw18_RuleNear.j0])
  | succ kj4 =>
   have H := HA.out
   clear HA
   simp only [stockadelaw18_RuleNear.j0] at H
   by_cases c10 : x30_4 = true
   ·subst c10
    replace H := sh_t H
    replace H := Option.bind_eq_some_iff.mp H; obtain ⟨t587, A110, H⟩ := H; try dsimp only at H
    have A11 := Aside0.mk A110
    clear A110
    obtain rfl := Option.some.inj H
    go_wp2_with (first | ((with_reducible refine gate_callee (f := 11) rfl ?_); refine sh_call (some 31) Tryd.func11 #[] ?_; (with_reducible refine (stockadelaw18_wakes.calls kj4  t587 _ ?side1 (by first | rfl | exact HRT.out) A11.out).mono ?_); (case side1 => repeat (first | exact (Kd.C_below HRG0.out HB.out) | (with_reducible refine Kd.C_alloc ?_ _) | (with_reducible refine Kd.C_drewN ?_ _) | (with_reducible refine Kd.C_drew ?_))); rintro e w12 ⟨rfl, hb⟩; refine ⟨_, rfl, ?_⟩; replace BK585 := sh_k BK585 hb; replace HB := sh_b (w := w) hb; (try clear hb); (try clear hb2); (try clear hk); (try clear hi)))
    go_ret
    exact ⟨ret_now, b_now⟩
   ·replace c10 := Bool.eq_false_iff.mpr c10
    subst c10
    replace H := sh_f H
    replace H := Option.bind_eq_some_iff.mp H; obtain ⟨t588, A130, H⟩ := H; try dsimp only at H
    have A13 := Aside0.mk A130
    clear A130
    have H' := Aside0.mk H
    clear H
    go_wp2_with (first | ((with_reducible refine gate_callee (f := 12) rfl ?_); refine sh_call (some 33) Tryd.func12 #[.slice A0 l0.length c0] ?_; (with_reducible refine (stockadelaw18_Table.calls kj4 _ _ l0 t588 _ ?side1 ?side2 A13.out).mono ?_); (case side1 => repeat (first | exact (Kd.C_below HR0.out HB.out) | (with_reducible refine Kd.C_alloc ?_ _) | (with_reducible refine Kd.C_drewN ?_ _) | (with_reducible refine Kd.C_drew ?_))); (case side2 => exact HC0.out); rintro e w14 ⟨v589, rfl, ho0, hb⟩; refine ⟨_, rfl, ?_⟩; have HO590 := Aside0.mk (Kd.N_lower (Kd.N_mono (ok' := fun k_ => k_ ≠ gb585) (Kd.S_N (Kd.S_bound ho0)) (fun k_ hk_ => (Kd.freshB (g := gb585) (o := .cells #[.slice A1_0 l1_0.length c1_0, .int .u32 a1_1] 40 (0, 0)) bk_now k_ hk_.2.1))) (below_size b_now)); replace BK585 := sh_k BK585 hb; replace HB := sh_b (w := w) hb; (try clear hb); (try clear hb2); (try clear hk); (try clear hi); (try clear ho0)))
    go_loopg [10] kj4 (fun kq v10 w' => ∃ (x10_2 : Int), v10 = .int .i64 x10_2 ∧ Aside0 (stockadelaw18_RuleNear.l0 kq a2 a3 t588 x10_2 l1_0 a1_1 = some r) ∧ Aside0 (kq ≤ kj4) ∧ Aside0 (Kd.N k53 53 w' w.heap.size (fun k_ => k_ ≠ gb585) v589 t588) ∧ Aside0 (w'.heap[gb585]? = some (.cells #[(.slice A1_0 l1_0.length c1_0), .int .u32 a1_1] 40 (0, 0))) ∧ Aside0 (Below w.heap.size w w'))
    case atStart => exact ⟨(0), eq_now, H', ⟨Nat.le_refl _⟩, ⟨by (with_reducible repeat (first | apply Kd.N_alloc | apply Kd.N_drewN | apply Kd.N_drew)); exact HO590.out⟩, ⟨bk_now⟩, ⟨b_now⟩⟩
    case round =>
     clear H'
     try clear c1
     try clear p2
     try clear c8
     try clear c10
     try clear c11
     try clear c12
     try clear hcz9
     try clear p2
     obtain ⟨x10_2, rfl, HA, HK2, HO_9, BK585, HB⟩ := hrel
     cases gk with
     | zero => exact absurd HA.out (by simp [stockadelaw18_RuleNear.l0])
     | succ k2 =>
      have H := HA.out
      clear HA
      simp only [stockadelaw18_RuleNear.l0] at H
      by_cases c15 : x10_2 < (t588.length : Int)
      ·rw [if_pos c15] at H
       have c15b0 : decide (x10_2 < (t588.length : Int)) = true := decide_eq_true c15
       clear c15
       have H' := Aside0.mk H
       clear H
       obtain ⟨Ao16, co16, eo16⟩ := Kd.N_slice HO_9.out
       subst eo16
       go_wp2
       go_loopg [11] k2 (fun kq v11 w' => ∃ (x11_3 : Int), v11 = .int .i64 x11_3 ∧ Aside0 (stockadelaw18_RuleNear.l1 kq a2 a3 t588 x10_2 x11_3 l1_0 a1_1 = some r) ∧ Aside0 (kq ≤ k2) ∧ Aside0 (Kd.N k53 53 w' w.heap.size (fun k_ => k_ ≠ gb585) (.slice Ao16 t588.length co16) t588) ∧ Aside0 (w'.heap[gb585]? = some (.cells #[(.slice A1_0 l1_0.length c1_0), .int .u32 a1_1] 40 (0, 0))) ∧ Aside0 (Below w.heap.size w w'))
       case atStart => exact ⟨(0), eq_now, H', ⟨Nat.le_refl _⟩, ⟨by (with_reducible repeat (first | apply Kd.N_alloc | apply Kd.N_drewN | apply Kd.N_drew)); exact HO_9.out⟩, ⟨bk_now⟩, ⟨b_now⟩⟩
       case round =>
        clear H'
        try clear c1
        try clear p2
        try clear c8
        try clear c10
        try clear c11
        try clear c12
        try clear c15
        try clear c15b0
        try clear hcz9
        try clear p2
        obtain ⟨x11_3, rfl, HA, HK3, HO_9, BK585, HB⟩ := hrel
        cases gk with
        | zero => exact absurd HA.out (by simp [stockadelaw18_RuleNear.l1])
        | succ k3 =>
         have H := HA.out
         clear HA
         simp only [stockadelaw18_RuleNear.l1] at H
         by_cases c17 : 0 ≤ x10_2
         ·rw [if_pos c17] at H
          have c17b0 : decide (0 ≤ x10_2) = true := decide_eq_true c17
          clear c17
          by_cases c18 : x10_2 < (t588.length : Int)
          ·rw [if_pos c18] at H
           have c18b0 : decide (x10_2 < (t588.length : Int)) = true := decide_eq_true c18
           clear c18
           by_cases c19 : x11_3 < (((rd_T53 t588 x10_2).f0).length : Int)
           ·rw [if_pos c19] at H
            have c19b0 : decide (x11_3 < (((rd_T53 t588 x10_2).f0).length : Int)) = true := decide_eq_true c19
            clear c19
            by_cases c20 : 0 ≤ x11_3
            ·rw [if_pos c20] at H
             have c20b0 : decide (0 ≤ x11_3) = true := decide_eq_true c20
             clear c20
             replace H := Option.bind_eq_some_iff.mp H; obtain ⟨t596, A210, H⟩ := H; try dsimp only at H
             have A21 := Aside0.mk A210
             clear A210
             replace H := Option.bind_eq_some_iff.mp H; obtain ⟨t597, A220, H⟩ := H; try dsimp only at H
             have A22 := Aside0.mk A220
             clear A220
             obtain ⟨y598, hy598⟩ : ∃ y_ : List (S50), y_ = (([(⟨(rd_T50 ((rd_T53 t588 x10_2).f0) x11_3).f0, (rd_T50 ((rd_T53 t588 x10_2).f0) x11_3).f1, (rd_T50 ((rd_T53 t588 x10_2).f0) x11_3).f2, (rd_T50 ((rd_T53 t588 x10_2).f0) x11_3).f3, (rd_T50 ((rd_T53 t588 x10_2).f0) x11_3).f4, (rd_T50 ((rd_T53 t588 x10_2).f0) x11_3).f5, (rd_T50 ((rd_T53 t588 x10_2).f0) x11_3).f6⟩ : S50)] : List (S50))) := ⟨_, rfl⟩
             replace H : ((rule_Check.f k3 (([(⟨y598, 0⟩ : S53)] : List (S53)))).bind fun bt604 => (if t596 = true then (if t597 = true then (some false) else (if (true != (bt604.2 == 0)) = true then (some false) else (stockadelaw18_RuleNear.l1 k3 a2 a3 t588 x10_2 (wrap64 (x11_3 + 1)) l1_0 a1_1))) else (if (t597 != (bt604.2 == 0)) = true then (some false) else (stockadelaw18_RuleNear.l1 k3 a2 a3 t588 x10_2 (wrap64 (x11_3 + 1)) l1_0 a1_1)))) = some r := by first | (rw [hy598]; with_reducible exact H) | (have H2_ := (Option.bind_some _ _).symm.trans H; rw [hy598]; with_reducible exact H2_) | (have H2_ := (Option.bind_some _ _).symm.trans H; with_reducible exact H2_) | with_reducible exact H | (rw [hy598]; exact H) | exact H
             have Ny598 := Aside0.mk hy598
             clear hy598
             obtain ⟨y601, hy601⟩ : ∃ y_ : List (S53), y_ = (([(⟨y598, 0⟩ : S53)] : List (S53))) := ⟨_, rfl⟩
             replace H : ((rule_Check.f k3 y601).bind fun bt604 => (if t596 = true then (if t597 = true then (some false) else (if (true != (bt604.2 == 0)) = true then (some false) else (stockadelaw18_RuleNear.l1 k3 a2 a3 t588 x10_2 (wrap64 (x11_3 + 1)) l1_0 a1_1))) else (if (t597 != (bt604.2 == 0)) = true then (some false) else (stockadelaw18_RuleNear.l1 k3 a2 a3 t588 x10_2 (wrap64 (x11_3 + 1)) l1_0 a1_1)))) = some r := by first | (rw [hy601]; with_reducible exact H) | (have H2_ := (Option.bind_some _ _).symm.trans H; rw [hy601]; with_reducible exact H2_) | (have H2_ := (Option.bind_some _ _).symm.trans H; with_reducible exact H2_) | with_reducible exact H | (rw [hy601]; exact H) | exact H
             have Ny601 := Aside0.mk hy601
             clear hy601
             replace H := Option.bind_eq_some_iff.mp H; obtain ⟨⟨t604, t605⟩, A230, H⟩ := H; try dsimp only at H
             have A23 := Aside0.mk A230
             clear A230
             by_cases c24 : t596 = true
             ·subst c24
              replace H := sh_t H
              by_cases c25 : t597 = true
              ·subst c25
               replace H := sh_t H
               obtain rfl := Option.some.inj H
               exact absurd HRT.out (by simp)
              ·replace c25 := Bool.eq_false_iff.mpr c25
               subst c25
               replace H := sh_f H
               by_cases c26 : (true != (t605 == 0)) = true
               ·rw [if_pos c26] at H
                have c26b0 : (true != (t605 == 0)) = true := c26
                (try (have c26b1 : decide (true = (t605 == 0)) = false := by simpa using c26))
                (try (have c26b2 : (true == (t605 == 0)) = false := by simpa using c26))
                (try (have c26b3 : ¬ (true = (t605 == 0)) := by simpa using c26))
                clear c26
                obtain rfl := Option.some.inj H
                exact absurd HRT.out (by simp)
               ·rw [if_neg c26] at H
                have c26b0 : (true != (t605 == 0)) = false := by simpa using c26
                (try (have c26b1 : decide (true = (t605 == 0)) = true := by simpa using c26))
                (try (have c26b2 : (true == (t605 == 0)) = true := by simpa using c26))
                clear c26
                have H' := Aside0.mk H
                clear H
                have p591 : 0 ≤ (x10_2 : Int) := of_decide_eq_true (by first | (with_reducible assumption) | assumption)
                have q591 : x10_2 < (t588.length : Int) := of_decide_eq_true (by first | (with_reducible assumption) | assumption)
                obtain ⟨ad591, A591_0, c591_0, e591, hx591_0, hx591_1, hl591_0, hi591_0⟩ := at_T53 (Kd.N_reads' HO_9.out).2.2 x10_2 p591 q591
                cases e591
                obtain ⟨ce591, hce591, hMe591, hcc591⟩ := Kd.N_get HO_9.out z53 x10_2 p591 (by first | exact q591 | exact of_decide_eq_true (by first | (with_reducible assumption) | assumption) | (have e_ := (Kd.N_reads' HO_9.out).1; omega))
                obtain ⟨ua591_0, uc591_0, rfl, ul591_0, ge591_0⟩ := k53_openF hMe591
                have hv591_0 := hcc591 0 _ rfl
                rw [Nat.add_zero] at hv591_0
                replace hv591_0 := Option.some.inj (hv591_0.symm.trans hx591_0)
                injection hv591_0 with hva_ hvn_ hvc_
                rw [hva_] at ge591_0
                rw [hvc_] at ul591_0
                have HL591_0 := Aside0.mk (show Kd.V k50 50 _ w.heap.size _ _ ((rd_T53 t588 x10_2).f0) from Kd.V_mk ul591_0 ge591_0)
                clear hva_ hvn_ hvc_ ge591_0 ul591_0
                clear hcc591 hce591
                have HR591_0 := Aside0.mk hi591_0
                have HC591_0 := Aside0.mk hl591_0
                clear hi591_0 hl591_0
                replace p591 := eq_true p591
                replace q591 := eq_true q591
                have p592 : 0 ≤ (x10_2 : Int) := of_decide_eq_true (by first | (with_reducible assumption) | assumption)
                have q592 : x10_2 < (t588.length : Int) := of_decide_eq_true (by first | (with_reducible assumption) | assumption)
                obtain ⟨ad592, A592_0, c592_0, e592, hx592_0, hx592_1, hl592_0, hi592_0⟩ := at_T53 (Kd.N_reads' HO_9.out).2.2 x10_2 p592 q592
                obtain rfl : ad591 = ad592 := (by injection e592)
                obtain ⟨ce592, hce592, hMe592, hcc592⟩ := Kd.N_get HO_9.out z53 x10_2 p592 (by first | exact q592 | exact of_decide_eq_true (by first | (with_reducible assumption) | assumption) | (have e_ := (Kd.N_reads' HO_9.out).1; omega))
                obtain ⟨ua592_0, uc592_0, rfl, ul592_0, ge592_0⟩ := k53_openF hMe592
                have hv592_0 := hcc592 0 _ rfl
                rw [Nat.add_zero] at hv592_0
                replace hv592_0 := Option.some.inj (hv592_0.symm.trans hx592_0)
                injection hv592_0 with hva_ hvn_ hvc_
                rw [hva_] at ge592_0
                rw [hvc_] at ul592_0
                have HL592_0 := Aside0.mk (show Kd.V k50 50 _ w.heap.size _ _ ((rd_T53 t588 x10_2).f0) from Kd.V_mk ul592_0 ge592_0)
                clear hva_ hvn_ hvc_ ge592_0 ul592_0
                clear hcc592 hce592
                have HR592_0 := Aside0.mk hi592_0
                have HC592_0 := Aside0.mk hl592_0
                clear hi592_0 hl592_0
                replace p592 := eq_true p592
                replace q592 := eq_true q592
                have ea_ := Option.some.inj (hx591_0.symm.trans hx592_0)
                injection ea_ with ea_ en_ ec_
                subst ea_
                subst ec_
                clear en_
                have p593 : 0 ≤ (x11_3 : Int) := of_decide_eq_true (by first | (with_reducible assumption) | assumption)
                have q593 : x11_3 < (((rd_T53 t588 x10_2).f0).length : Int) := of_decide_eq_true (by first | (with_reducible assumption) | assumption)
                obtain ⟨ad593, e593, hx593_0, hx593_1, hx593_2, hx593_3, hx593_4, hx593_5, hx593_6⟩ := at_T50 (by repeat (first | (with_reducible exact HR592_0.out) | (with_reducible refine Kd.C_alloc ?_ _) | (with_reducible refine Kd.C_drewN ?_ _) | (with_reducible refine Kd.C_drew ?_) | exact HR592_0.out)) x11_3 p593 q593
                cases e593
                replace p593 := eq_true p593
                replace q593 := eq_true q593
                go_wp2_with (first | ((with_reducible refine gate_dst (N := 12) rfl ?_); (try (refine gate_guard (by rfl) ?_; dsimp only)); refine sh_box 12 #[.bool false, .int .i64 0, .int .i64 0, .int .i64 0, .int .u64 0, .int .u64 0, .int .u64 0] 50 ?_; intro gb594 hg w27 hbox hb; have GE594 := sh_z (w := w) hg; have NB585_594 := sh_n BK585 hg; have NB594_585 := sh_s NB585_594; replace HO_9 := Aside0.mk (Kd.N_below (Kd.N_elderB (by (with_reducible repeat (first | apply Kd.N_alloc | apply Kd.N_drewN | apply Kd.N_drew)); exact HO_9.out) gb594 (Nat.le_of_eq hg.symm)) hb); replace HL591_0 := Aside0.mk (Kd.V_below (Kd.V_elderB (by (with_reducible repeat (first | apply Kd.V_alloc | apply Kd.V_drewN | apply Kd.V_drew)); exact HL591_0.out) gb594 (Nat.le_of_eq hg.symm)) hb); replace HL592_0 := Aside0.mk (Kd.V_below (Kd.V_elderB (by (with_reducible repeat (first | apply Kd.V_alloc | apply Kd.V_drewN | apply Kd.V_drew)); exact HL592_0.out) gb594 (Nat.le_of_eq hg.symm)) hb); replace BK585 := sh_k BK585 hb; replace HR591_0 := Aside0.mk (Kd.C_below (by repeat (first | (with_reducible exact HR591_0.out) | (with_reducible refine Kd.C_alloc ?_ _) | (with_reducible refine Kd.C_drewN ?_ _) | (with_reducible refine Kd.C_drew ?_) | exact HR591_0.out)) hb); replace HR592_0 := Aside0.mk (Kd.C_below (by repeat (first | (with_reducible exact HR592_0.out) | (with_reducible refine Kd.C_alloc ?_ _) | (with_reducible refine Kd.C_drewN ?_ _) | (with_reducible refine Kd.C_drew ?_) | exact HR592_0.out)) hb); replace HB := sh_b (w := w) hb; have BK594 := Aside0.mk (hbox); clear hb hbox hg; have hnb28 := NB594_585.out; have hnc28 := NB585_594.out; have hcz29 := blk_all7 BK594.out) | ((with_reducible refine gate_dst (N := 13) rfl ?_); (try (refine gate_guard (by rfl) ?_; dsimp only)); refine sh_box 13 #[.bool false, .int .i64 0, .int .i64 0, .int .i64 0, .int .u64 0, .int .u64 0, .int .u64 0] 50 ?_; intro gb595 hg w30 hbox hb; have n0_ := Aside0.mk (Kd.N_below (Kd.N_elderB (by (with_reducible repeat (first | apply Kd.N_alloc | apply Kd.N_drewN | apply Kd.N_drew)); exact (Kd.N_mono (Kd.N_far (p := ⟨gb594, 6, none⟩) (Kd.N_far (p := ⟨gb594, 5, none⟩) (Kd.N_far (p := ⟨gb594, 4, none⟩) (Kd.N_far (p := ⟨gb594, 3, none⟩) (Kd.N_far (p := ⟨gb594, 2, none⟩) (Kd.N_far (p := ⟨gb594, 1, none⟩) (Kd.N_far (p := ⟨gb594, 0, none⟩) (Kd.N_mono HO_9.out (fun k_ hk => (⟨hk, hk.2⟩ : _ ∧ k_ ≠ gb594))) (fun _ hk => hk.2) (.bool ((rd_T50 ((rd_T53 t588 x10_2).f0) x11_3).f0))) (fun _ hk => hk.2) (.int .i64 ((rd_T50 ((rd_T53 t588 x10_2).f0) x11_3).f1))) (fun _ hk => hk.2) (.int .i64 ((rd_T50 ((rd_T53 t588 x10_2).f0) x11_3).f2))) (fun _ hk => hk.2) (.int .i64 ((rd_T50 ((rd_T53 t588 x10_2).f0) x11_3).f3))) (fun _ hk => hk.2) (.int .u64 ((rd_T50 ((rd_T53 t588 x10_2).f0) x11_3).f4))) (fun _ hk => hk.2) (.int .u64 ((rd_T50 ((rd_T53 t588 x10_2).f0) x11_3).f5))) (fun _ hk => hk.2) (.int .u64 ((rd_T50 ((rd_T53 t588 x10_2).f0) x11_3).f6))) (fun _ h_ => h_.1))) gb595 (Nat.le_of_eq hg.symm)) hb); have n1_ := Aside0.mk (Kd.V_below (Kd.V_elderB (by (with_reducible repeat (first | apply Kd.V_alloc | apply Kd.V_drewN | apply Kd.V_drew)); exact (Kd.V_mono (Kd.V_far (p := ⟨gb594, 6, none⟩) (Kd.V_far (p := ⟨gb594, 5, none⟩) (Kd.V_far (p := ⟨gb594, 4, none⟩) (Kd.V_far (p := ⟨gb594, 3, none⟩) (Kd.V_far (p := ⟨gb594, 2, none⟩) (Kd.V_far (p := ⟨gb594, 1, none⟩) (Kd.V_far (p := ⟨gb594, 0, none⟩) (Kd.V_mono HL591_0.out (fun k_ hk => (⟨hk, hk.2⟩ : _ ∧ k_ ≠ gb594))) (fun _ hk => hk.2) (.bool ((rd_T50 ((rd_T53 t588 x10_2).f0) x11_3).f0))) (fun _ hk => hk.2) (.int .i64 ((rd_T50 ((rd_T53 t588 x10_2).f0) x11_3).f1))) (fun _ hk => hk.2) (.int .i64 ((rd_T50 ((rd_T53 t588 x10_2).f0) x11_3).f2))) (fun _ hk => hk.2) (.int .i64 ((rd_T50 ((rd_T53 t588 x10_2).f0) x11_3).f3))) (fun _ hk => hk.2) (.int .u64 ((rd_T50 ((rd_T53 t588 x10_2).f0) x11_3).f4))) (fun _ hk => hk.2) (.int .u64 ((rd_T50 ((rd_T53 t588 x10_2).f0) x11_3).f5))) (fun _ hk => hk.2) (.int .u64 ((rd_T50 ((rd_T53 t588 x10_2).f0) x11_3).f6))) (fun _ h_ => h_.1))) gb595 (Nat.le_of_eq hg.symm)) hb); have n2_ := Aside0.mk (Kd.V_below (Kd.V_elderB (by (with_reducible repeat (first | apply Kd.V_alloc | apply Kd.V_drewN | apply Kd.V_drew)); exact (Kd.V_mono (Kd.V_far (p := ⟨gb594, 6, none⟩) (Kd.V_far (p := ⟨gb594, 5, none⟩) (Kd.V_far (p := ⟨gb594, 4, none⟩) (Kd.V_far (p := ⟨gb594, 3, none⟩) (Kd.V_far (p := ⟨gb594, 2, none⟩) (Kd.V_far (p := ⟨gb594, 1, none⟩) (Kd.V_far (p := ⟨gb594, 0, none⟩) (Kd.V_mono HL592_0.out (fun k_ hk => (⟨hk, hk.2⟩ : _ ∧ k_ ≠ gb594))) (fun _ hk => hk.2) (.bool ((rd_T50 ((rd_T53 t588 x10_2).f0) x11_3).f0))) (fun _ hk => hk.2) (.int .i64 ((rd_T50 ((rd_T53 t588 x10_2).f0) x11_3).f1))) (fun _ hk => hk.2) (.int .i64 ((rd_T50 ((rd_T53 t588 x10_2).f0) x11_3).f2))) (fun _ hk => hk.2) (.int .i64 ((rd_T50 ((rd_T53 t588 x10_2).f0) x11_3).f3))) (fun _ hk => hk.2) (.int .u64 ((rd_T50 ((rd_T53 t588 x10_2).f0) x11_3).f4))) (fun _ hk => hk.2) (.int .u64 ((rd_T50 ((rd_T53 t588 x10_2).f0) x11_3).f5))) (fun _ hk => hk.2) (.int .u64 ((rd_T50 ((rd_T53 t588 x10_2).f0) x11_3).f6))) (fun _ h_ => h_.1))) gb595 (Nat.le_of_eq hg.symm)) hb); have n3_ := Aside0.mk (blk_below (g := gb585) (o := .cells #[.slice A1_0 l1_0.length c1_0, .int .u32 a1_1] 40 (0, 0)) bk_now hb); have n4_ := Aside0.mk (Kd.C_below ((Kd.V_reads' (by (with_reducible repeat (first | apply Kd.V_alloc | apply Kd.V_drewN | apply Kd.V_drew)); exact (Kd.V_mono (Kd.V_far (p := ⟨gb594, 6, none⟩) (Kd.V_far (p := ⟨gb594, 5, none⟩) (Kd.V_far (p := ⟨gb594, 4, none⟩) (Kd.V_far (p := ⟨gb594, 3, none⟩) (Kd.V_far (p := ⟨gb594, 2, none⟩) (Kd.V_far (p := ⟨gb594, 1, none⟩) (Kd.V_far (p := ⟨gb594, 0, none⟩) (Kd.V_mono HL591_0.out (fun k_ hk => (⟨hk, hk.2⟩ : _ ∧ k_ ≠ gb594))) (fun _ hk => hk.2) (.bool ((rd_T50 ((rd_T53 t588 x10_2).f0) x11_3).f0))) (fun _ hk => hk.2) (.int .i64 ((rd_T50 ((rd_T53 t588 x10_2).f0) x11_3).f1))) (fun _ hk => hk.2) (.int .i64 ((rd_T50 ((rd_T53 t588 x10_2).f0) x11_3).f2))) (fun _ hk => hk.2) (.int .i64 ((rd_T50 ((rd_T53 t588 x10_2).f0) x11_3).f3))) (fun _ hk => hk.2) (.int .u64 ((rd_T50 ((rd_T53 t588 x10_2).f0) x11_3).f4))) (fun _ hk => hk.2) (.int .u64 ((rd_T50 ((rd_T53 t588 x10_2).f0) x11_3).f5))) (fun _ hk => hk.2) (.int .u64 ((rd_T50 ((rd_T53 t588 x10_2).f0) x11_3).f6))) (fun _ h_ => h_.1)))).2.2) hb); have n5_ := Aside0.mk (Kd.C_below ((Kd.V_reads' (by (with_reducible repeat (first | apply Kd.V_alloc | apply Kd.V_drewN | apply Kd.V_drew)); exact (Kd.V_mono (Kd.V_far (p := ⟨gb594, 6, none⟩) (Kd.V_far (p := ⟨gb594, 5, none⟩) (Kd.V_far (p := ⟨gb594, 4, none⟩) (Kd.V_far (p := ⟨gb594, 3, none⟩) (Kd.V_far (p := ⟨gb594, 2, none⟩) (Kd.V_far (p := ⟨gb594, 1, none⟩) (Kd.V_far (p := ⟨gb594, 0, none⟩) (Kd.V_mono HL592_0.out (fun k_ hk => (⟨hk, hk.2⟩ : _ ∧ k_ ≠ gb594))) (fun _ hk => hk.2) (.bool ((rd_T50 ((rd_T53 t588 x10_2).f0) x11_3).f0))) (fun _ hk => hk.2) (.int .i64 ((rd_T50 ((rd_T53 t588 x10_2).f0) x11_3).f1))) (fun _ hk => hk.2) (.int .i64 ((rd_T50 ((rd_T53 t588 x10_2).f0) x11_3).f2))) (fun _ hk => hk.2) (.int .i64 ((rd_T50 ((rd_T53 t588 x10_2).f0) x11_3).f3))) (fun _ hk => hk.2) (.int .u64 ((rd_T50 ((rd_T53 t588 x10_2).f0) x11_3).f4))) (fun _ hk => hk.2) (.int .u64 ((rd_T50 ((rd_T53 t588 x10_2).f0) x11_3).f5))) (fun _ hk => hk.2) (.int .u64 ((rd_T50 ((rd_T53 t588 x10_2).f0) x11_3).f6))) (fun _ h_ => h_.1)))).2.2) hb); have n6_ := Aside0.mk (blk_below (g := gb594) (o := .cells #[.bool ((rd_T50 ((rd_T53 t588 x10_2).f0) x11_3).f0), .int .i64 ((rd_T50 ((rd_T53 t588 x10_2).f0) x11_3).f1), .int .i64 ((rd_T50 ((rd_T53 t588 x10_2).f0) x11_3).f2), .int .i64 ((rd_T50 ((rd_T53 t588 x10_2).f0) x11_3).f3), .int .u64 ((rd_T50 ((rd_T53 t588 x10_2).f0) x11_3).f4), .int .u64 ((rd_T50 ((rd_T53 t588 x10_2).f0) x11_3).f5), .int .u64 ((rd_T50 ((rd_T53 t588 x10_2).f0) x11_3).f6)] 50 (0, 0)) bk_now hb); have n7_ := Aside0.mk (below_step b_now hb); have n8_ := Aside0.mk (hbox); have n9_ := Aside0.mk ((by rw [hg]; exact (below_size b_now) : w.heap.size ≤ gb595)); have n10_ := Aside0.mk ((by rw [hg]; exact (below_size b_now) : w.heap.size ≤ gb595)); have n11_ := Aside0.mk ((by rw [hg]; exact Nat.ne_of_lt (blk_lt (g := gb585) (o := .cells #[.slice A1_0 l1_0.length c1_0, .int .u32 a1_1] 40 (0, 0)) bk_now) : gb585 ≠ gb595)); have n12_ := Aside0.mk ((by rw [hg]; exact Nat.ne_of_gt (blk_lt (g := gb585) (o := .cells #[.slice A1_0 l1_0.length c1_0, .int .u32 a1_1] 40 (0, 0)) bk_now) : gb595 ≠ gb585)); have n13_ := Aside0.mk ((by rw [hg]; exact Nat.ne_of_lt (blk_lt (g := gb594) (o := .cells #[.bool ((rd_T50 ((rd_T53 t588 x10_2).f0) x11_3).f0), .int .i64 ((rd_T50 ((rd_T53 t588 x10_2).f0) x11_3).f1), .int .i64 ((rd_T50 ((rd_T53 t588 x10_2).f0) x11_3).f2), .int .i64 ((rd_T50 ((rd_T53 t588 x10_2).f0) x11_3).f3), .int .u64 ((rd_T50 ((rd_T53 t588 x10_2).f0) x11_3).f4), .int .u64 ((rd_T50 ((rd_T53 t588 x10_2).f0) x11_3).f5), .int .u64 ((rd_T50 ((rd_T53 t588 x10_2).f0) x11_3).f6)] 50 (0, 0)) bk_now) : gb594 ≠ gb595)); have n14_ := Aside0.mk ((by rw [hg]; exact Nat.ne_of_gt (blk_lt (g := gb594) (o := .cells #[.bool ((rd_T50 ((rd_T53 t588 x10_2).f0) x11_3).f0), .int .i64 ((rd_T50 ((rd_T53 t588 x10_2).f0) x11_3).f1), .int .i64 ((rd_T50 ((rd_T53 t588 x10_2).f0) x11_3).f2), .int .i64 ((rd_T50 ((rd_T53 t588 x10_2).f0) x11_3).f3), .int .u64 ((rd_T50 ((rd_T53 t588 x10_2).f0) x11_3).f4), .int .u64 ((rd_T50 ((rd_T53 t588 x10_2).f0) x11_3).f5), .int .u64 ((rd_T50 ((rd_T53 t588 x10_2).f0) x11_3).f6)] 50 (0, 0)) bk_now) : gb595 ≠ gb594)); clear HO_9; clear HL591_0; clear HL592_0; clear BK585; clear HR591_0; clear HR592_0; clear BK594; clear HB; have HO_9 := n0_; have HL591_0 := n1_; have HL592_0 := n2_; have BK585 := n3_; have HR591_0 := n4_; have HR592_0 := n5_; have BK594 := n6_; have HB := n7_; have BK595 := n8_; have GW595 := n9_; have GE595 := n10_; have NB585_595 := n11_; have NB595_585 := n12_; have NB594_595 := n13_; have NB595_594 := n14_; clear n0_ n1_ n2_ n3_ n4_ n5_ n6_ n7_ n8_ n9_ n10_ n11_ n12_ n13_ n14_; clear hb hbox hg; have hnb31 := NB595_585.out; have hnc31 := NB585_595.out; have hnb32 := NB595_594.out; have hnc32 := NB594_595.out; have hcz33 := blk_all7 BK595.out; have hcz34 := blk_all7 BK594.out; have hcz35 := blk_all2 BK585.out) | ((with_reducible refine gate_callee (f := 20) rfl ?_); refine sh_call (some 68) Tryd.func20 #[.agg #[.bool ((rd_T50 ((rd_T53 t588 x10_2).f0) x11_3).f0), .int .i64 ((rd_T50 ((rd_T53 t588 x10_2).f0) x11_3).f1), .int .i64 ((rd_T50 ((rd_T53 t588 x10_2).f0) x11_3).f2), .int .i64 ((rd_T50 ((rd_T53 t588 x10_2).f0) x11_3).f3), .int .u64 ((rd_T50 ((rd_T53 t588 x10_2).f0) x11_3).f4), .int .u64 ((rd_T50 ((rd_T53 t588 x10_2).f0) x11_3).f5), .int .u64 ((rd_T50 ((rd_T53 t588 x10_2).f0) x11_3).f6)], .slice A1_0 l1_0.length c1_0, .int .u32 a1_1] ?_; (with_reducible refine (rule_Holds.calls k3 ((rd_T50 ((rd_T53 t588 x10_2).f0) x11_3).f0) ((rd_T50 ((rd_T53 t588 x10_2).f0) x11_3).f1) ((rd_T50 ((rd_T53 t588 x10_2).f0) x11_3).f2) ((rd_T50 ((rd_T53 t588 x10_2).f0) x11_3).f3) ((rd_T50 ((rd_T53 t588 x10_2).f0) x11_3).f4) ((rd_T50 ((rd_T53 t588 x10_2).f0) x11_3).f5) ((rd_T50 ((rd_T53 t588 x10_2).f0) x11_3).f6) _ _ l1_0 a1_1 true _ ?side1 ?side2 A21.out).mono ?_); (case side1 => exact Kd.C_below HR1_0.out b_now); (case side2 => exact HC1_0.out); rintro e w36 ⟨rfl, hb⟩; refine ⟨_, rfl, ?_⟩; have n0_ := Aside0.mk (Kd.N_below (by (with_reducible repeat (first | apply Kd.N_alloc | apply Kd.N_drewN | apply Kd.N_drew)); exact (Kd.N_mono (Kd.N_far (p := ⟨gb595, 0, none⟩) (Kd.N_far (p := ⟨gb595, 6, none⟩) (Kd.N_far (p := ⟨gb595, 5, none⟩) (Kd.N_far (p := ⟨gb595, 4, none⟩) (Kd.N_far (p := ⟨gb595, 3, none⟩) (Kd.N_far (p := ⟨gb595, 2, none⟩) (Kd.N_far (p := ⟨gb595, 1, none⟩) (Kd.N_far (p := ⟨gb595, 0, none⟩) (Kd.N_mono HO_9.out (fun k_ hk => (⟨hk, hk.2⟩ : _ ∧ k_ ≠ gb595))) (fun _ hk => hk.2) (.bool ((rd_T50 ((rd_T53 t588 x10_2).f0) x11_3).f0))) (fun _ hk => hk.2) (.int .i64 ((rd_T50 ((rd_T53 t588 x10_2).f0) x11_3).f1))) (fun _ hk => hk.2) (.int .i64 ((rd_T50 ((rd_T53 t588 x10_2).f0) x11_3).f2))) (fun _ hk => hk.2) (.int .i64 ((rd_T50 ((rd_T53 t588 x10_2).f0) x11_3).f3))) (fun _ hk => hk.2) (.int .u64 ((rd_T50 ((rd_T53 t588 x10_2).f0) x11_3).f4))) (fun _ hk => hk.2) (.int .u64 ((rd_T50 ((rd_T53 t588 x10_2).f0) x11_3).f5))) (fun _ hk => hk.2) (.int .u64 ((rd_T50 ((rd_T53 t588 x10_2).f0) x11_3).f6))) (fun _ hk => hk.2) (.bool (!((rd_T50 ((rd_T53 t588 x10_2).f0) x11_3).f0)))) (fun _ h_ => h_.1))) hb); have n1_ := Aside0.mk (Kd.V_below (by (with_reducible repeat (first | apply Kd.V_alloc | apply Kd.V_drewN | apply Kd.V_drew)); exact (Kd.V_mono (Kd.V_far (p := ⟨gb595, 0, none⟩) (Kd.V_far (p := ⟨gb595, 6, none⟩) (Kd.V_far (p := ⟨gb595, 5, none⟩) (Kd.V_far (p := ⟨gb595, 4, none⟩) (Kd.V_far (p := ⟨gb595, 3, none⟩) (Kd.V_far (p := ⟨gb595, 2, none⟩) (Kd.V_far (p := ⟨gb595, 1, none⟩) (Kd.V_far (p := ⟨gb595, 0, none⟩) (Kd.V_mono HL591_0.out (fun k_ hk => (⟨hk, hk.2⟩ : _ ∧ k_ ≠ gb595))) (fun _ hk => hk.2) (.bool ((rd_T50 ((rd_T53 t588 x10_2).f0) x11_3).f0))) (fun _ hk => hk.2) (.int .i64 ((rd_T50 ((rd_T53 t588 x10_2).f0) x11_3).f1))) (fun _ hk => hk.2) (.int .i64 ((rd_T50 ((rd_T53 t588 x10_2).f0) x11_3).f2))) (fun _ hk => hk.2) (.int .i64 ((rd_T50 ((rd_T53 t588 x10_2).f0) x11_3).f3))) (fun _ hk => hk.2) (.int .u64 ((rd_T50 ((rd_T53 t588 x10_2).f0) x11_3).f4))) (fun _ hk => hk.2) (.int .u64 ((rd_T50 ((rd_T53 t588 x10_2).f0) x11_3).f5))) (fun _ hk => hk.2) (.int .u64 ((rd_T50 ((rd_T53 t588 x10_2).f0) x11_3).f6))) (fun _ hk => hk.2) (.bool (!((rd_T50 ((rd_T53 t588 x10_2).f0) x11_3).f0)))) (fun _ h_ => h_.1))) hb); have n2_ := Aside0.mk (Kd.V_below (by (with_reducible repeat (first | apply Kd.V_alloc | apply Kd.V_drewN | apply Kd.V_drew)); exact (Kd.V_mono (Kd.V_far (p := ⟨gb595, 0, none⟩) (Kd.V_far (p := ⟨gb595, 6, none⟩) (Kd.V_far (p := ⟨gb595, 5, none⟩) (Kd.V_far (p := ⟨gb595, 4, none⟩) (Kd.V_far (p := ⟨gb595, 3, none⟩) (Kd.V_far (p := ⟨gb595, 2, none⟩) (Kd.V_far (p := ⟨gb595, 1, none⟩) (Kd.V_far (p := ⟨gb595, 0, none⟩) (Kd.V_mono HL592_0.out (fun k_ hk => (⟨hk, hk.2⟩ : _ ∧ k_ ≠ gb595))) (fun _ hk => hk.2) (.bool ((rd_T50 ((rd_T53 t588 x10_2).f0) x11_3).f0))) (fun _ hk => hk.2) (.int .i64 ((rd_T50 ((rd_T53 t588 x10_2).f0) x11_3).f1))) (fun _ hk => hk.2) (.int .i64 ((rd_T50 ((rd_T53 t588 x10_2).f0) x11_3).f2))) (fun _ hk => hk.2) (.int .i64 ((rd_T50 ((rd_T53 t588 x10_2).f0) x11_3).f3))) (fun _ hk => hk.2) (.int .u64 ((rd_T50 ((rd_T53 t588 x10_2).f0) x11_3).f4))) (fun _ hk => hk.2) (.int .u64 ((rd_T50 ((rd_T53 t588 x10_2).f0) x11_3).f5))) (fun _ hk => hk.2) (.int .u64 ((rd_T50 ((rd_T53 t588 x10_2).f0) x11_3).f6))) (fun _ hk => hk.2) (.bool (!((rd_T50 ((rd_T53 t588 x10_2).f0) x11_3).f0)))) (fun _ h_ => h_.1))) hb); have n3_ := Aside0.mk (blk_below (g := gb585) (o := .cells #[.slice A1_0 l1_0.length c1_0, .int .u32 a1_1] 40 (0, 0)) bk_now hb); have n4_ := Aside0.mk (Kd.C_below ((Kd.V_reads' (by (with_reducible repeat (first | apply Kd.V_alloc | apply Kd.V_drewN | apply Kd.V_drew)); exact (Kd.V_mono (Kd.V_far (p := ⟨gb595, 0, none⟩) (Kd.V_far (p := ⟨gb595, 6, none⟩) (Kd.V_far (p := ⟨gb595, 5, none⟩) (Kd.V_far (p := ⟨gb595, 4, none⟩) (Kd.V_far (p := ⟨gb595, 3, none⟩) (Kd.V_far (p := ⟨gb595, 2, none⟩) (Kd.V_far (p := ⟨gb595, 1, none⟩) (Kd.V_far (p := ⟨gb595, 0, none⟩) (Kd.V_mono HL591_0.out (fun k_ hk => (⟨hk, hk.2⟩ : _ ∧ k_ ≠ gb595))) (fun _ hk => hk.2) (.bool ((rd_T50 ((rd_T53 t588 x10_2).f0) x11_3).f0))) (fun _ hk => hk.2) (.int .i64 ((rd_T50 ((rd_T53 t588 x10_2).f0) x11_3).f1))) (fun _ hk => hk.2) (.int .i64 ((rd_T50 ((rd_T53 t588 x10_2).f0) x11_3).f2))) (fun _ hk => hk.2) (.int .i64 ((rd_T50 ((rd_T53 t588 x10_2).f0) x11_3).f3))) (fun _ hk => hk.2) (.int .u64 ((rd_T50 ((rd_T53 t588 x10_2).f0) x11_3).f4))) (fun _ hk => hk.2) (.int .u64 ((rd_T50 ((rd_T53 t588 x10_2).f0) x11_3).f5))) (fun _ hk => hk.2) (.int .u64 ((rd_T50 ((rd_T53 t588 x10_2).f0) x11_3).f6))) (fun _ hk => hk.2) (.bool (!((rd_T50 ((rd_T53 t588 x10_2).f0) x11_3).f0)))) (fun _ h_ => h_.1)))).2.2) hb); have n5_ := Aside0.mk (Kd.C_below ((Kd.V_reads' (by (with_reducible repeat (first | apply Kd.V_alloc | apply Kd.V_drewN | apply Kd.V_drew)); exact (Kd.V_mono (Kd.V_far (p := ⟨gb595, 0, none⟩) (Kd.V_far (p := ⟨gb595, 6, none⟩) (Kd.V_far (p := ⟨gb595, 5, none⟩) (Kd.V_far (p := ⟨gb595, 4, none⟩) (Kd.V_far (p := ⟨gb595, 3, none⟩) (Kd.V_far (p := ⟨gb595, 2, none⟩) (Kd.V_far (p := ⟨gb595, 1, none⟩) (Kd.V_far (p := ⟨gb595, 0, none⟩) (Kd.V_mono HL592_0.out (fun k_ hk => (⟨hk, hk.2⟩ : _ ∧ k_ ≠ gb595))) (fun _ hk => hk.2) (.bool ((rd_T50 ((rd_T53 t588 x10_2).f0) x11_3).f0))) (fun _ hk => hk.2) (.int .i64 ((rd_T50 ((rd_T53 t588 x10_2).f0) x11_3).f1))) (fun _ hk => hk.2) (.int .i64 ((rd_T50 ((rd_T53 t588 x10_2).f0) x11_3).f2))) (fun _ hk => hk.2) (.int .i64 ((rd_T50 ((rd_T53 t588 x10_2).f0) x11_3).f3))) (fun _ hk => hk.2) (.int .u64 ((rd_T50 ((rd_T53 t588 x10_2).f0) x11_3).f4))) (fun _ hk => hk.2) (.int .u64 ((rd_T50 ((rd_T53 t588 x10_2).f0) x11_3).f5))) (fun _ hk => hk.2) (.int .u64 ((rd_T50 ((rd_T53 t588 x10_2).f0) x11_3).f6))) (fun _ hk => hk.2) (.bool (!((rd_T50 ((rd_T53 t588 x10_2).f0) x11_3).f0)))) (fun _ h_ => h_.1)))).2.2) hb); have n6_ := Aside0.mk (blk_below (g := gb594) (o := .cells #[.bool ((rd_T50 ((rd_T53 t588 x10_2).f0) x11_3).f0), .int .i64 ((rd_T50 ((rd_T53 t588 x10_2).f0) x11_3).f1), .int .i64 ((rd_T50 ((rd_T53 t588 x10_2).f0) x11_3).f2), .int .i64 ((rd_T50 ((rd_T53 t588 x10_2).f0) x11_3).f3), .int .u64 ((rd_T50 ((rd_T53 t588 x10_2).f0) x11_3).f4), .int .u64 ((rd_T50 ((rd_T53 t588 x10_2).f0) x11_3).f5), .int .u64 ((rd_T50 ((rd_T53 t588 x10_2).f0) x11_3).f6)] 50 (0, 0)) bk_now hb); have n7_ := Aside0.mk (blk_below (g := gb595) (o := .cells #[.bool (!((rd_T50 ((rd_T53 t588 x10_2).f0) x11_3).f0)), .int .i64 ((rd_T50 ((rd_T53 t588 x10_2).f0) x11_3).f1), .int .i64 ((rd_T50 ((rd_T53 t588 x10_2).f0) x11_3).f2), .int .i64 ((rd_T50 ((rd_T53 t588 x10_2).f0) x11_3).f3), .int .u64 ((rd_T50 ((rd_T53 t588 x10_2).f0) x11_3).f4), .int .u64 ((rd_T50 ((rd_T53 t588 x10_2).f0) x11_3).f5), .int .u64 ((rd_T50 ((rd_T53 t588 x10_2).f0) x11_3).f6)] 50 (0, 0)) bk_now hb); have n8_ := Aside0.mk (below_step b_now hb); clear HO_9; clear HL591_0; clear HL592_0; clear BK585; clear HR591_0; clear HR592_0; clear BK594; clear BK595; clear HB; have HO_9 := n0_; have HL591_0 := n1_; have HL592_0 := n2_; have BK585 := n3_; have HR591_0 := n4_; have HR592_0 := n5_; have BK594 := n6_; have BK595 := n7_; have HB := n8_; clear n0_ n1_ n2_ n3_ n4_ n5_ n6_ n7_ n8_; (try clear hb); (try clear hb2); (try clear hk); (try clear hi); have hcz37 := blk_all7 BK595.out; have hcz38 := blk_all2 BK585.out) | ((with_reducible refine gate_callee (f := 20) rfl ?_); refine sh_call (some 74) Tryd.func20 #[.agg #[.bool (!((rd_T50 ((rd_T53 t588 x10_2).f0) x11_3).f0)), .int .i64 ((rd_T50 ((rd_T53 t588 x10_2).f0) x11_3).f1), .int .i64 ((rd_T50 ((rd_T53 t588 x10_2).f0) x11_3).f2), .int .i64 ((rd_T50 ((rd_T53 t588 x10_2).f0) x11_3).f3), .int .u64 ((rd_T50 ((rd_T53 t588 x10_2).f0) x11_3).f4), .int .u64 ((rd_T50 ((rd_T53 t588 x10_2).f0) x11_3).f5), .int .u64 ((rd_T50 ((rd_T53 t588 x10_2).f0) x11_3).f6)], .slice A1_0 l1_0.length c1_0, .int .u32 a1_1] ?_; (with_reducible refine (rule_Holds.calls k3 (!((rd_T50 ((rd_T53 t588 x10_2).f0) x11_3).f0)) ((rd_T50 ((rd_T53 t588 x10_2).f0) x11_3).f1) ((rd_T50 ((rd_T53 t588 x10_2).f0) x11_3).f2) ((rd_T50 ((rd_T53 t588 x10_2).f0) x11_3).f3) ((rd_T50 ((rd_T53 t588 x10_2).f0) x11_3).f4) ((rd_T50 ((rd_T53 t588 x10_2).f0) x11_3).f5) ((rd_T50 ((rd_T53 t588 x10_2).f0) x11_3).f6) _ _ l1_0 a1_1 false _ ?side1 ?side2 A22.out).mono ?_); (case side1 => repeat (first | exact (Kd.C_below HR1_0.out HB.out) | (with_reducible refine Kd.C_alloc ?_ _) | (with_reducible refine Kd.C_drewN ?_ _) | (with_reducible refine Kd.C_drew ?_))); (case side2 => exact HC1_0.out); rintro e w39 ⟨rfl, hb⟩; refine ⟨_, rfl, ?_⟩; replace HO_9 := Aside0.mk (Kd.N_below (by (with_reducible repeat (first | apply Kd.N_alloc | apply Kd.N_drewN | apply Kd.N_drew)); exact HO_9.out) hb); replace HL591_0 := Aside0.mk (Kd.V_below (by (with_reducible repeat (first | apply Kd.V_alloc | apply Kd.V_drewN | apply Kd.V_drew)); exact HL591_0.out) hb); replace HL592_0 := Aside0.mk (Kd.V_below (by (with_reducible repeat (first | apply Kd.V_alloc | apply Kd.V_drewN | apply Kd.V_drew)); exact HL592_0.out) hb); replace BK585 := sh_k BK585 hb; replace HR591_0 := Aside0.mk (Kd.C_below (by repeat (first | (with_reducible exact HR591_0.out) | (with_reducible refine Kd.C_alloc ?_ _) | (with_reducible refine Kd.C_drewN ?_ _) | (with_reducible refine Kd.C_drew ?_) | exact HR591_0.out)) hb); replace HR592_0 := Aside0.mk (Kd.C_below (by repeat (first | (with_reducible exact HR592_0.out) | (with_reducible refine Kd.C_alloc ?_ _) | (with_reducible refine Kd.C_drewN ?_ _) | (with_reducible refine Kd.C_drew ?_) | exact HR592_0.out)) hb); replace BK594 := sh_k BK594 hb; replace BK595 := sh_k BK595 hb; replace HB := sh_b (w := w) hb; (try clear hb); (try clear hb2); (try clear hk); (try clear hi); have hcz40 := blk_all7 BK594.out) | ((with_reducible refine gate_dst (N := 77) rfl ?_); (try (refine gate_guard (by rfl) ?_; dsimp only)); refine Kd.R_lit k50 _ 50 ?hg (N := 77) ?hd (xs := ([(⟨(rd_T50 ((rd_T53 t588 x10_2).f0) x11_3).f0, (rd_T50 ((rd_T53 t588 x10_2).f0) x11_3).f1, (rd_T50 ((rd_T53 t588 x10_2).f0) x11_3).f2, (rd_T50 ((rd_T53 t588 x10_2).f0) x11_3).f3, (rd_T50 ((rd_T53 t588 x10_2).f0) x11_3).f4, (rd_T50 ((rd_T53 t588 x10_2).f0) x11_3).f5, (rd_T50 ((rd_T53 t588 x10_2).f0) x11_3).f6⟩ : S50)] : List (S50))) (inner := [.bool ((rd_T50 ((rd_T53 t588 x10_2).f0) x11_3).f0), .int .i64 ((rd_T50 ((rd_T53 t588 x10_2).f0) x11_3).f1), .int .i64 ((rd_T50 ((rd_T53 t588 x10_2).f0) x11_3).f2), .int .i64 ((rd_T50 ((rd_T53 t588 x10_2).f0) x11_3).f3), .int .u64 ((rd_T50 ((rd_T53 t588 x10_2).f0) x11_3).f4), .int .u64 ((rd_T50 ((rd_T53 t588 x10_2).f0) x11_3).f5), .int .u64 ((rd_T50 ((rd_T53 t588 x10_2).f0) x11_3).f6)]) (ok := fun _ => True) (okp := fun _ => True) ?hr ?hp (fun _ hk => hk) trivial (Below.refl _ _) (Nat.le_refl _) (by simp) ?_; (case hd => rfl); (case hg => rfl); (case hr => first | (go_simp; done) | (go_simp; rfl)); (case hp => exact (Reps.c7 (show Kd.M k50 _ _ _ (⟨(rd_T50 ((rd_T53 t588 x10_2).f0) x11_3).f0, (rd_T50 ((rd_T53 t588 x10_2).f0) x11_3).f1, (rd_T50 ((rd_T53 t588 x10_2).f0) x11_3).f2, (rd_T50 ((rd_T53 t588 x10_2).f0) x11_3).f3, (rd_T50 ((rd_T53 t588 x10_2).f0) x11_3).f4, (rd_T50 ((rd_T53 t588 x10_2).f0) x11_3).f5, (rd_T50 ((rd_T53 t588 x10_2).f0) x11_3).f6⟩ : S50) [.bool ((rd_T50 ((rd_T53 t588 x10_2).f0) x11_3).f0), .int .i64 ((rd_T50 ((rd_T53 t588 x10_2).f0) x11_3).f1), .int .i64 ((rd_T50 ((rd_T53 t588 x10_2).f0) x11_3).f2), .int .i64 ((rd_T50 ((rd_T53 t588 x10_2).f0) x11_3).f3), .int .u64 ((rd_T50 ((rd_T53 t588 x10_2).f0) x11_3).f4), .int .u64 ((rd_T50 ((rd_T53 t588 x10_2).f0) x11_3).f5), .int .u64 ((rd_T50 ((rd_T53 t588 x10_2).f0) x11_3).f6)] from (k50_mkM _ _ _ (⟨(rd_T50 ((rd_T53 t588 x10_2).f0) x11_3).f0, (rd_T50 ((rd_T53 t588 x10_2).f0) x11_3).f1, (rd_T50 ((rd_T53 t588 x10_2).f0) x11_3).f2, (rd_T50 ((rd_T53 t588 x10_2).f0) x11_3).f3, (rd_T50 ((rd_T53 t588 x10_2).f0) x11_3).f4, (rd_T50 ((rd_T53 t588 x10_2).f0) x11_3).f5, (rd_T50 ((rd_T53 t588 x10_2).f0) x11_3).f6⟩ : S50) )) (Reps.none _ _))); intro v599 w41 ho42 hb hg_ hnew_; clear hg_ hnew_; (first | rw [← Ny598.out] at ho42 | (simp only [Int.reduceToNat] at ho42; rw [← Ny598.out] at ho42)); have HO600 := Aside0.mk (Kd.R_lower (Kd.R_newB (Kd.R_newB ho42 (g := gb594) (o := .cells #[.bool ((rd_T50 ((rd_T53 t588 x10_2).f0) x11_3).f0), .int .i64 ((rd_T50 ((rd_T53 t588 x10_2).f0) x11_3).f1), .int .i64 ((rd_T50 ((rd_T53 t588 x10_2).f0) x11_3).f2), .int .i64 ((rd_T50 ((rd_T53 t588 x10_2).f0) x11_3).f3), .int .u64 ((rd_T50 ((rd_T53 t588 x10_2).f0) x11_3).f4), .int .u64 ((rd_T50 ((rd_T53 t588 x10_2).f0) x11_3).f5), .int .u64 ((rd_T50 ((rd_T53 t588 x10_2).f0) x11_3).f6)] 50 (0, 0)) bk_now) (g := gb595) (o := .cells #[.bool (!((rd_T50 ((rd_T53 t588 x10_2).f0) x11_3).f0)), .int .i64 ((rd_T50 ((rd_T53 t588 x10_2).f0) x11_3).f1), .int .i64 ((rd_T50 ((rd_T53 t588 x10_2).f0) x11_3).f2), .int .i64 ((rd_T50 ((rd_T53 t588 x10_2).f0) x11_3).f3), .int .u64 ((rd_T50 ((rd_T53 t588 x10_2).f0) x11_3).f4), .int .u64 ((rd_T50 ((rd_T53 t588 x10_2).f0) x11_3).f5), .int .u64 ((rd_T50 ((rd_T53 t588 x10_2).f0) x11_3).f6)] 50 (0, 0)) bk_now) (below_size b_now)); replace HO_9 := Aside0.mk (Kd.N_elder' (by (with_reducible repeat (first | apply Kd.N_alloc | apply Kd.N_drewN | apply Kd.N_drew)); exact HO_9.out) (Kd.R_base ho42) hb); replace HL591_0 := Aside0.mk (Kd.V_elder' (by (with_reducible repeat (first | apply Kd.V_alloc | apply Kd.V_drewN | apply Kd.V_drew)); exact HL591_0.out) (Kd.R_base ho42) hb); replace HL592_0 := Aside0.mk (Kd.V_elder' (by (with_reducible repeat (first | apply Kd.V_alloc | apply Kd.V_drewN | apply Kd.V_drew)); exact HL592_0.out) (Kd.R_base ho42) hb); replace BK585 := sh_k BK585 hb; replace HR591_0 := Aside0.mk (Kd.C_below (by repeat (first | (with_reducible exact HR591_0.out) | (with_reducible refine Kd.C_alloc ?_ _) | (with_reducible refine Kd.C_drewN ?_ _) | (with_reducible refine Kd.C_drew ?_) | exact HR591_0.out)) hb); replace HR592_0 := Aside0.mk (Kd.C_below (by repeat (first | (with_reducible exact HR592_0.out) | (with_reducible refine Kd.C_alloc ?_ _) | (with_reducible refine Kd.C_drewN ?_ _) | (with_reducible refine Kd.C_drew ?_) | exact HR592_0.out)) hb); replace BK594 := sh_k BK594 hb; replace BK595 := sh_k BK595 hb; replace HB := sh_b (w := w) hb; clear hb ho42; obtain ⟨Ao43, co43, eo43⟩ := Kd.R_slice HO600.out; subst eo43) | ((with_reducible refine gate_dst (N := 79) rfl ?_); (try (refine gate_guard (by rfl) ?_; dsimp only)); refine Kd.N_lit k53 _ 53 ?hg (N' := 79) ?hd (xs := ([(⟨y598, 0⟩ : S53)] : List (S53))) (inner := [.slice Ao43 y598.length co43, .int .u32 0]) (ok := (fun k_ => some k_ ≠ (.slice (some ad591) t588.length co16 : Value).ownBlock ∧ k_ ≠ gb585 ∧ k_ ≠ gb594 ∧ k_ ≠ gb595)) (okp := (fun k_ => some k_ ≠ (.slice (some ad591) t588.length co16 : Value).ownBlock ∧ k_ ≠ gb585 ∧ k_ ≠ gb594 ∧ k_ ≠ gb595)) ?hr ?hp (fun _ hk => hk) ((show ∀ k_, w41.heap.size ≤ k_ → (fun k_ => some k_ ≠ (.slice (some ad591) t588.length co16 : Value).ownBlock ∧ k_ ≠ gb585 ∧ k_ ≠ gb594 ∧ k_ ≠ gb595) k_ from fun k_ hk => ⟨Kd.fresh' (Kd.N_lt (by (with_reducible repeat (first | apply Kd.N_alloc | apply Kd.N_drewN | apply Kd.N_drew)); exact HO_9.out)) k_ hk, Kd.freshB (g := gb585) (o := .cells #[.slice A1_0 l1_0.length c1_0, .int .u32 a1_1] 40 (0, 0)) bk_now k_ hk, Kd.freshB (g := gb594) (o := .cells #[.bool ((rd_T50 ((rd_T53 t588 x10_2).f0) x11_3).f0), .int .i64 ((rd_T50 ((rd_T53 t588 x10_2).f0) x11_3).f1), .int .i64 ((rd_T50 ((rd_T53 t588 x10_2).f0) x11_3).f2), .int .i64 ((rd_T50 ((rd_T53 t588 x10_2).f0) x11_3).f3), .int .u64 ((rd_T50 ((rd_T53 t588 x10_2).f0) x11_3).f4), .int .u64 ((rd_T50 ((rd_T53 t588 x10_2).f0) x11_3).f5), .int .u64 ((rd_T50 ((rd_T53 t588 x10_2).f0) x11_3).f6)] 50 (0, 0)) bk_now k_ hk, Kd.freshB (g := gb595) (o := .cells #[.bool (!((rd_T50 ((rd_T53 t588 x10_2).f0) x11_3).f0)), .int .i64 ((rd_T50 ((rd_T53 t588 x10_2).f0) x11_3).f1), .int .i64 ((rd_T50 ((rd_T53 t588 x10_2).f0) x11_3).f2), .int .i64 ((rd_T50 ((rd_T53 t588 x10_2).f0) x11_3).f3), .int .u64 ((rd_T50 ((rd_T53 t588 x10_2).f0) x11_3).f4), .int .u64 ((rd_T50 ((rd_T53 t588 x10_2).f0) x11_3).f5), .int .u64 ((rd_T50 ((rd_T53 t588 x10_2).f0) x11_3).f6)] 50 (0, 0)) bk_now k_ hk⟩) _ (Nat.le_refl _)) (Below.refl _ _) (Nat.le_refl _) (by simp) ?_; (case hd => rfl); (case hg => rfl); (case hr => first | (go_simp; done) | (go_simp; rfl)); (case hp => exact (Reps.c2 (show Kd.FK k53 _ _ (⟨y598, 0⟩ : S53) [.slice Ao43 y598.length co43, .int .u32 0] from (k53_mkF _ _ (⟨y598, 0⟩ : S53) (Kd.R_reads' (Kd.R_mono (ok' := (fun k_ => some k_ ≠ (.slice (some ad591) t588.length co16 : Value).ownBlock ∧ k_ ≠ gb585 ∧ k_ ≠ gb594 ∧ k_ ≠ gb595)) (Kd.R_types (Kd.R_apart' (HO600.out) (Kd.N_typed HO_9.out) (by decide)) BK585.out (by decide)) (fun k_ hk => ⟨hk.1.2, ⟨hk.2, ⟨hk.1.1.1.2, hk.1.1.2⟩⟩⟩))).2.1 (Kd.R_F (Kd.R_mono (ok' := (fun k_ => some k_ ≠ (.slice (some ad591) t588.length co16 : Value).ownBlock ∧ k_ ≠ gb585 ∧ k_ ≠ gb594 ∧ k_ ≠ gb595)) (Kd.R_types (Kd.R_apart' (HO600.out) (Kd.N_typed HO_9.out) (by decide)) BK585.out (by decide)) (fun k_ hk => ⟨hk.1.2, ⟨hk.2, ⟨hk.1.1.1.2, hk.1.1.2⟩⟩⟩))))) (Reps.none _ _))); intro v602 w44 ho45 hb hg_ hnew_; clear hg_ hnew_; (first | rw [← Ny601.out] at ho45 | (simp only [Int.reduceToNat] at ho45; rw [← Ny601.out] at ho45)); have n0_ := Aside0.mk (Kd.N_elder' (by (with_reducible repeat (first | apply Kd.N_alloc | apply Kd.N_drewN | apply Kd.N_drew)); exact HO_9.out) (Kd.N_base ho45) hb); have n1_ := Aside0.mk (Kd.V_elder' (by (with_reducible repeat (first | apply Kd.V_alloc | apply Kd.V_drewN | apply Kd.V_drew)); exact HL591_0.out) (Kd.N_base ho45) hb); have n2_ := Aside0.mk (Kd.V_elder' (by (with_reducible repeat (first | apply Kd.V_alloc | apply Kd.V_drewN | apply Kd.V_drew)); exact HL592_0.out) (Kd.N_base ho45) hb); have n3_ := Aside0.mk (Kd.N_lower ho45 (below_size b_now)); have n4_ := Aside0.mk (blk_below (g := gb585) (o := .cells #[.slice A1_0 l1_0.length c1_0, .int .u32 a1_1] 40 (0, 0)) bk_now hb); have n5_ := Aside0.mk (Kd.C_below (by repeat (first | (with_reducible exact HR591_0.out) | (with_reducible refine Kd.C_alloc ?_ _) | (with_reducible refine Kd.C_drewN ?_ _) | (with_reducible refine Kd.C_drew ?_) | exact HR591_0.out)) hb); have n6_ := Aside0.mk (Kd.C_below (by repeat (first | (with_reducible exact HR592_0.out) | (with_reducible refine Kd.C_alloc ?_ _) | (with_reducible refine Kd.C_drewN ?_ _) | (with_reducible refine Kd.C_drew ?_) | exact HR592_0.out)) hb); have n7_ := Aside0.mk (blk_below (g := gb594) (o := .cells #[.bool ((rd_T50 ((rd_T53 t588 x10_2).f0) x11_3).f0), .int .i64 ((rd_T50 ((rd_T53 t588 x10_2).f0) x11_3).f1), .int .i64 ((rd_T50 ((rd_T53 t588 x10_2).f0) x11_3).f2), .int .i64 ((rd_T50 ((rd_T53 t588 x10_2).f0) x11_3).f3), .int .u64 ((rd_T50 ((rd_T53 t588 x10_2).f0) x11_3).f4), .int .u64 ((rd_T50 ((rd_T53 t588 x10_2).f0) x11_3).f5), .int .u64 ((rd_T50 ((rd_T53 t588 x10_2).f0) x11_3).f6)] 50 (0, 0)) bk_now hb); have n8_ := Aside0.mk (blk_below (g := gb595) (o := .cells #[.bool (!((rd_T50 ((rd_T53 t588 x10_2).f0) x11_3).f0)), .int .i64 ((rd_T50 ((rd_T53 t588 x10_2).f0) x11_3).f1), .int .i64 ((rd_T50 ((rd_T53 t588 x10_2).f0) x11_3).f2), .int .i64 ((rd_T50 ((rd_T53 t588 x10_2).f0) x11_3).f3), .int .u64 ((rd_T50 ((rd_T53 t588 x10_2).f0) x11_3).f4), .int .u64 ((rd_T50 ((rd_T53 t588 x10_2).f0) x11_3).f5), .int .u64 ((rd_T50 ((rd_T53 t588 x10_2).f0) x11_3).f6)] 50 (0, 0)) bk_now hb); have n9_ := Aside0.mk (below_step b_now hb); clear HO_9; clear HL591_0; clear HL592_0; clear BK585; clear HR591_0; clear HR592_0; clear BK594; clear BK595; clear HB; clear HO600; have HO_9 := n0_; have HL591_0 := n1_; have HL592_0 := n2_; have HO603 := n3_; have BK585 := n4_; have HR591_0 := n5_; have HR592_0 := n6_; have BK594 := n7_; have BK595 := n8_; have HB := n9_; clear n0_ n1_ n2_ n3_ n4_ n5_ n6_ n7_ n8_ n9_; clear hb ho45; obtain ⟨Ao46, co46, eo46⟩ := Kd.N_slice HO603.out; subst eo46) | ((with_reducible refine gate_callee (f := 13) rfl ?_); refine sh_call (some 80) Tryd.func13 #[.slice Ao46 y601.length co46] ?_; (with_reducible refine (rule_Check.calls k3 _ _ y601 t604 t605 _ ?side1 ?side2 A23.out).mono ?_); (case side1 => repeat (first | exact (Kd.N_reads' HO603.out).2.2 | (with_reducible refine Kd.C_alloc ?_ _) | (with_reducible refine Kd.C_drewN ?_ _) | (with_reducible refine Kd.C_drew ?_))); (case side2 => exact (Kd.N_reads' HO603.out).2.1); rintro e w47 ⟨rfl, hb⟩; refine ⟨_, rfl, ?_⟩; replace HO_9 := Aside0.mk (Kd.N_below (by (with_reducible repeat (first | apply Kd.N_alloc | apply Kd.N_drewN | apply Kd.N_drew)); exact HO_9.out) hb); replace HL591_0 := Aside0.mk (Kd.V_below (by (with_reducible repeat (first | apply Kd.V_alloc | apply Kd.V_drewN | apply Kd.V_drew)); exact HL591_0.out) hb); replace HL592_0 := Aside0.mk (Kd.V_below (by (with_reducible repeat (first | apply Kd.V_alloc | apply Kd.V_drewN | apply Kd.V_drew)); exact HL592_0.out) hb); replace HO603 := Aside0.mk (Kd.N_below (by (with_reducible repeat (first | apply Kd.N_alloc | apply Kd.N_drewN | apply Kd.N_drew)); exact HO603.out) hb); replace BK585 := sh_k BK585 hb; replace HR591_0 := Aside0.mk (Kd.C_below (by repeat (first | (with_reducible exact HR591_0.out) | (with_reducible refine Kd.C_alloc ?_ _) | (with_reducible refine Kd.C_drewN ?_ _) | (with_reducible refine Kd.C_drew ?_) | exact HR591_0.out)) hb); replace HR592_0 := Aside0.mk (Kd.C_below (by repeat (first | (with_reducible exact HR592_0.out) | (with_reducible refine Kd.C_alloc ?_ _) | (with_reducible refine Kd.C_drewN ?_ _) | (with_reducible refine Kd.C_drew ?_) | exact HR592_0.out)) hb); replace BK594 := sh_k BK594 hb; replace BK595 := sh_k BK595 hb; replace HB := sh_b (w := w) hb; (try clear hb); (try clear hb2); (try clear hk); (try clear hi)))
                go_roundg k3
                case measure => have := HJ4.out; have := HK2.out; have := HK3.out; omega
                case rel => exact ⟨(wrap64 (x11_3 + 1)), eq_now, H', ⟨by have := HJ4.out; have := HK2.out; have := HK3.out; omega⟩, ⟨by (with_reducible repeat (first | apply Kd.N_alloc | apply Kd.N_drewN | apply Kd.N_drew)); exact Kd.N_mono HO_9.out (fun _ hk => hk.1.1.1.1)⟩, ⟨bk_now⟩, ⟨b_now⟩⟩
             ·replace c24 := Bool.eq_false_iff.mpr c24
              subst c24
              replace H := sh_f H
              by_cases c48 : (t597 != (t605 == 0)) = true
              ·rw [if_pos c48] at H
               have c48b0 : (t597 != (t605 == 0)) = true := c48
               (try (have c48b1 : decide (t597 = (t605 == 0)) = false := by simpa using c48))
               (try (have c48b2 : (t597 == (t605 == 0)) = false := by simpa using c48))
               (try (have c48b3 : ¬ (t597 = (t605 == 0)) := by simpa using c48))
               clear c48
               obtain rfl := Option.some.inj H
               exact absurd HRT.out (by simp)
              ·rw [if_neg c48] at H
               have c48b0 : (t597 != (t605 == 0)) = false := by simpa using c48
               (try (have c48b1 : decide (t597 = (t605 == 0)) = true := by simpa using c48))
               (try (have c48b2 : (t597 == (t605 == 0)) = true := by simpa using c48))
               clear c48
               have H' := Aside0.mk H
               clear H
               have p591 : 0 ≤ (x10_2 : Int) := of_decide_eq_true (by first | (with_reducible assumption) | assumption)
               have q591 : x10_2 < (t588.length : Int) := of_decide_eq_true (by first | (with_reducible assumption) | assumption)
               obtain ⟨ad591, A591_0, c591_0, e591, hx591_0, hx591_1, hl591_0, hi591_0⟩ := at_T53 (Kd.N_reads' HO_9.out).2.2 x10_2 p591 q591
               cases e591
               obtain ⟨ce591, hce591, hMe591, hcc591⟩ := Kd.N_get HO_9.out z53 x10_2 p591 (by first | exact q591 | exact of_decide_eq_true (by first | (with_reducible assumption) | assumption) | (have e_ := (Kd.N_reads' HO_9.out).1; omega))
               obtain ⟨ua591_0, uc591_0, rfl, ul591_0, ge591_0⟩ := k53_openF hMe591
               have hv591_0 := hcc591 0 _ rfl
               rw [Nat.add_zero] at hv591_0
               replace hv591_0 := Option.some.inj (hv591_0.symm.trans hx591_0)
               injection hv591_0 with hva_ hvn_ hvc_
               rw [hva_] at ge591_0
               rw [hvc_] at ul591_0
               have HL591_0 := Aside0.mk (show Kd.V k50 50 _ w.heap.size _ _ ((rd_T53 t588 x10_2).f0) from Kd.V_mk ul591_0 ge591_0)
               clear hva_ hvn_ hvc_ ge591_0 ul591_0
               clear hcc591 hce591
               have HR591_0 := Aside0.mk hi591_0
               have HC591_0 := Aside0.mk hl591_0
               clear hi591_0 hl591_0
               replace p591 := eq_true p591
               replace q591 := eq_true q591
               have p592 : 0 ≤ (x10_2 : Int) := of_decide_eq_true (by first | (with_reducible assumption) | assumption)
               have q592 : x10_2 < (t588.length : Int) := of_decide_eq_true (by first | (with_reducible assumption) | assumption)
               obtain ⟨ad592, A592_0, c592_0, e592, hx592_0, hx592_1, hl592_0, hi592_0⟩ := at_T53 (Kd.N_reads' HO_9.out).2.2 x10_2 p592 q592
               obtain rfl : ad591 = ad592 := (by injection e592)
               obtain ⟨ce592, hce592, hMe592, hcc592⟩ := Kd.N_get HO_9.out z53 x10_2 p592 (by first | exact q592 | exact of_decide_eq_true (by first | (with_reducible assumption) | assumption) | (have e_ := (Kd.N_reads' HO_9.out).1; omega))
               obtain ⟨ua592_0, uc592_0, rfl, ul592_0, ge592_0⟩ := k53_openF hMe592
               have hv592_0 := hcc592 0 _ rfl
               rw [Nat.add_zero] at hv592_0
               replace hv592_0 := Option.some.inj (hv592_0.symm.trans hx592_0)
               injection hv592_0 with hva_ hvn_ hvc_
               rw [hva_] at ge592_0
               rw [hvc_] at ul592_0
               have HL592_0 := Aside0.mk (show Kd.V k50 50 _ w.heap.size _ _ ((rd_T53 t588 x10_2).f0) from Kd.V_mk ul592_0 ge592_0)
               clear hva_ hvn_ hvc_ ge592_0 ul592_0
               clear hcc592 hce592
               have HR592_0 := Aside0.mk hi592_0
               have HC592_0 := Aside0.mk hl592_0
               clear hi592_0 hl592_0
               replace p592 := eq_true p592
               replace q592 := eq_true q592
               have ea_ := Option.some.inj (hx591_0.symm.trans hx592_0)
               injection ea_ with ea_ en_ ec_
               subst ea_
               subst ec_
               clear en_
               have p593 : 0 ≤ (x11_3 : Int) := of_decide_eq_true (by first | (with_reducible assumption) | assumption)
               have q593 : x11_3 < (((rd_T53 t588 x10_2).f0).length : Int) := of_decide_eq_true (by first | (with_reducible assumption) | assumption)
               obtain ⟨ad593, e593, hx593_0, hx593_1, hx593_2, hx593_3, hx593_4, hx593_5, hx593_6⟩ := at_T50 (by repeat (first | (with_reducible exact HR592_0.out) | (with_reducible refine Kd.C_alloc ?_ _) | (with_reducible refine Kd.C_drewN ?_ _) | (with_reducible refine Kd.C_drew ?_) | exact HR592_0.out)) x11_3 p593 q593
               cases e593
               replace p593 := eq_true p593
               replace q593 := eq_true q593
               go_wp2_with (first | ((with_reducible refine gate_dst (N := 12) rfl ?_); (try (refine gate_guard (by rfl) ?_; dsimp only)); refine sh_box 12 #[.bool false, .int .i64 0, .int .i64 0, .int .i64 0, .int .u64 0, .int .u64 0, .int .u64 0] 50 ?_; intro gb594 hg w49 hbox hb; have GE594 := sh_z (w := w) hg; have NB585_594 := sh_n BK585 hg; have NB594_585 := sh_s NB585_594; replace HO_9 := Aside0.mk (Kd.N_below (Kd.N_elderB (by (with_reducible repeat (first | apply Kd.N_alloc | apply Kd.N_drewN | apply Kd.N_drew)); exact HO_9.out) gb594 (Nat.le_of_eq hg.symm)) hb); replace HL591_0 := Aside0.mk (Kd.V_below (Kd.V_elderB (by (with_reducible repeat (first | apply Kd.V_alloc | apply Kd.V_drewN | apply Kd.V_drew)); exact HL591_0.out) gb594 (Nat.le_of_eq hg.symm)) hb); replace HL592_0 := Aside0.mk (Kd.V_below (Kd.V_elderB (by (with_reducible repeat (first | apply Kd.V_alloc | apply Kd.V_drewN | apply Kd.V_drew)); exact HL592_0.out) gb594 (Nat.le_of_eq hg.symm)) hb); replace BK585 := sh_k BK585 hb; replace HR591_0 := Aside0.mk (Kd.C_below (by repeat (first | (with_reducible exact HR591_0.out) | (with_reducible refine Kd.C_alloc ?_ _) | (with_reducible refine Kd.C_drewN ?_ _) | (with_reducible refine Kd.C_drew ?_) | exact HR591_0.out)) hb); replace HR592_0 := Aside0.mk (Kd.C_below (by repeat (first | (with_reducible exact HR592_0.out) | (with_reducible refine Kd.C_alloc ?_ _) | (with_reducible refine Kd.C_drewN ?_ _) | (with_reducible refine Kd.C_drew ?_) | exact HR592_0.out)) hb); replace HB := sh_b (w := w) hb; have BK594 := Aside0.mk (hbox); clear hb hbox hg; have hnb50 := NB594_585.out; have hnc50 := NB585_594.out; have hcz51 := blk_all7 BK594.out) | ((with_reducible refine gate_dst (N := 13) rfl ?_); (try (refine gate_guard (by rfl) ?_; dsimp only)); refine sh_box 13 #[.bool false, .int .i64 0, .int .i64 0, .int .i64 0, .int .u64 0, .int .u64 0, .int .u64 0] 50 ?_; intro gb595 hg w52 hbox hb; have n0_ := Aside0.mk (Kd.N_below (Kd.N_elderB (by (with_reducible repeat (first | apply Kd.N_alloc | apply Kd.N_drewN | apply Kd.N_drew)); exact (Kd.N_mono (Kd.N_far (p := ⟨gb594, 6, none⟩) (Kd.N_far (p := ⟨gb594, 5, none⟩) (Kd.N_far (p := ⟨gb594, 4, none⟩) (Kd.N_far (p := ⟨gb594, 3, none⟩) (Kd.N_far (p := ⟨gb594, 2, none⟩) (Kd.N_far (p := ⟨gb594, 1, none⟩) (Kd.N_far (p := ⟨gb594, 0, none⟩) (Kd.N_mono HO_9.out (fun k_ hk => (⟨hk, hk.2⟩ : _ ∧ k_ ≠ gb594))) (fun _ hk => hk.2) (.bool ((rd_T50 ((rd_T53 t588 x10_2).f0) x11_3).f0))) (fun _ hk => hk.2) (.int .i64 ((rd_T50 ((rd_T53 t588 x10_2).f0) x11_3).f1))) (fun _ hk => hk.2) (.int .i64 ((rd_T50 ((rd_T53 t588 x10_2).f0) x11_3).f2))) (fun _ hk => hk.2) (.int .i64 ((rd_T50 ((rd_T53 t588 x10_2).f0) x11_3).f3))) (fun _ hk => hk.2) (.int .u64 ((rd_T50 ((rd_T53 t588 x10_2).f0) x11_3).f4))) (fun _ hk => hk.2) (.int .u64 ((rd_T50 ((rd_T53 t588 x10_2).f0) x11_3).f5))) (fun _ hk => hk.2) (.int .u64 ((rd_T50 ((rd_T53 t588 x10_2).f0) x11_3).f6))) (fun _ h_ => h_.1))) gb595 (Nat.le_of_eq hg.symm)) hb); have n1_ := Aside0.mk (Kd.V_below (Kd.V_elderB (by (with_reducible repeat (first | apply Kd.V_alloc | apply Kd.V_drewN | apply Kd.V_drew)); exact (Kd.V_mono (Kd.V_far (p := ⟨gb594, 6, none⟩) (Kd.V_far (p := ⟨gb594, 5, none⟩) (Kd.V_far (p := ⟨gb594, 4, none⟩) (Kd.V_far (p := ⟨gb594, 3, none⟩) (Kd.V_far (p := ⟨gb594, 2, none⟩) (Kd.V_far (p := ⟨gb594, 1, none⟩) (Kd.V_far (p := ⟨gb594, 0, none⟩) (Kd.V_mono HL591_0.out (fun k_ hk => (⟨hk, hk.2⟩ : _ ∧ k_ ≠ gb594))) (fun _ hk => hk.2) (.bool ((rd_T50 ((rd_T53 t588 x10_2).f0) x11_3).f0))) (fun _ hk => hk.2) (.int .i64 ((rd_T50 ((rd_T53 t588 x10_2).f0) x11_3).f1))) (fun _ hk => hk.2) (.int .i64 ((rd_T50 ((rd_T53 t588 x10_2).f0) x11_3).f2))) (fun _ hk => hk.2) (.int .i64 ((rd_T50 ((rd_T53 t588 x10_2).f0) x11_3).f3))) (fun _ hk => hk.2) (.int .u64 ((rd_T50 ((rd_T53 t588 x10_2).f0) x11_3).f4))) (fun _ hk => hk.2) (.int .u64 ((rd_T50 ((rd_T53 t588 x10_2).f0) x11_3).f5))) (fun _ hk => hk.2) (.int .u64 ((rd_T50 ((rd_T53 t588 x10_2).f0) x11_3).f6))) (fun _ h_ => h_.1))) gb595 (Nat.le_of_eq hg.symm)) hb); have n2_ := Aside0.mk (Kd.V_below (Kd.V_elderB (by (with_reducible repeat (first | apply Kd.V_alloc | apply Kd.V_drewN | apply Kd.V_drew)); exact (Kd.V_mono (Kd.V_far (p := ⟨gb594, 6, none⟩) (Kd.V_far (p := ⟨gb594, 5, none⟩) (Kd.V_far (p := ⟨gb594, 4, none⟩) (Kd.V_far (p := ⟨gb594, 3, none⟩) (Kd.V_far (p := ⟨gb594, 2, none⟩) (Kd.V_far (p := ⟨gb594, 1, none⟩) (Kd.V_far (p := ⟨gb594, 0, none⟩) (Kd.V_mono HL592_0.out (fun k_ hk => (⟨hk, hk.2⟩ : _ ∧ k_ ≠ gb594))) (fun _ hk => hk.2) (.bool ((rd_T50 ((rd_T53 t588 x10_2).f0) x11_3).f0))) (fun _ hk => hk.2) (.int .i64 ((rd_T50 ((rd_T53 t588 x10_2).f0) x11_3).f1))) (fun _ hk => hk.2) (.int .i64 ((rd_T50 ((rd_T53 t588 x10_2).f0) x11_3).f2))) (fun _ hk => hk.2) (.int .i64 ((rd_T50 ((rd_T53 t588 x10_2).f0) x11_3).f3))) (fun _ hk => hk.2) (.int .u64 ((rd_T50 ((rd_T53 t588 x10_2).f0) x11_3).f4))) (fun _ hk => hk.2) (.int .u64 ((rd_T50 ((rd_T53 t588 x10_2).f0) x11_3).f5))) (fun _ hk => hk.2) (.int .u64 ((rd_T50 ((rd_T53 t588 x10_2).f0) x11_3).f6))) (fun _ h_ => h_.1))) gb595 (Nat.le_of_eq hg.symm)) hb); have n3_ := Aside0.mk (blk_below (g := gb585) (o := .cells #[.slice A1_0 l1_0.length c1_0, .int .u32 a1_1] 40 (0, 0)) bk_now hb); have n4_ := Aside0.mk (Kd.C_below ((Kd.V_reads' (by (with_reducible repeat (first | apply Kd.V_alloc | apply Kd.V_drewN | apply Kd.V_drew)); exact (Kd.V_mono (Kd.V_far (p := ⟨gb594, 6, none⟩) (Kd.V_far (p := ⟨gb594, 5, none⟩) (Kd.V_far (p := ⟨gb594, 4, none⟩) (Kd.V_far (p := ⟨gb594, 3, none⟩) (Kd.V_far (p := ⟨gb594, 2, none⟩) (Kd.V_far (p := ⟨gb594, 1, none⟩) (Kd.V_far (p := ⟨gb594, 0, none⟩) (Kd.V_mono HL591_0.out (fun k_ hk => (⟨hk, hk.2⟩ : _ ∧ k_ ≠ gb594))) (fun _ hk => hk.2) (.bool ((rd_T50 ((rd_T53 t588 x10_2).f0) x11_3).f0))) (fun _ hk => hk.2) (.int .i64 ((rd_T50 ((rd_T53 t588 x10_2).f0) x11_3).f1))) (fun _ hk => hk.2) (.int .i64 ((rd_T50 ((rd_T53 t588 x10_2).f0) x11_3).f2))) (fun _ hk => hk.2) (.int .i64 ((rd_T50 ((rd_T53 t588 x10_2).f0) x11_3).f3))) (fun _ hk => hk.2) (.int .u64 ((rd_T50 ((rd_T53 t588 x10_2).f0) x11_3).f4))) (fun _ hk => hk.2) (.int .u64 ((rd_T50 ((rd_T53 t588 x10_2).f0) x11_3).f5))) (fun _ hk => hk.2) (.int .u64 ((rd_T50 ((rd_T53 t588 x10_2).f0) x11_3).f6))) (fun _ h_ => h_.1)))).2.2) hb); have n5_ := Aside0.mk (Kd.C_below ((Kd.V_reads' (by (with_reducible repeat (first | apply Kd.V_alloc | apply Kd.V_drewN | apply Kd.V_drew)); exact (Kd.V_mono (Kd.V_far (p := ⟨gb594, 6, none⟩) (Kd.V_far (p := ⟨gb594, 5, none⟩) (Kd.V_far (p := ⟨gb594, 4, none⟩) (Kd.V_far (p := ⟨gb594, 3, none⟩) (Kd.V_far (p := ⟨gb594, 2, none⟩) (Kd.V_far (p := ⟨gb594, 1, none⟩) (Kd.V_far (p := ⟨gb594, 0, none⟩) (Kd.V_mono HL592_0.out (fun k_ hk => (⟨hk, hk.2⟩ : _ ∧ k_ ≠ gb594))) (fun _ hk => hk.2) (.bool ((rd_T50 ((rd_T53 t588 x10_2).f0) x11_3).f0))) (fun _ hk => hk.2) (.int .i64 ((rd_T50 ((rd_T53 t588 x10_2).f0) x11_3).f1))) (fun _ hk => hk.2) (.int .i64 ((rd_T50 ((rd_T53 t588 x10_2).f0) x11_3).f2))) (fun _ hk => hk.2) (.int .i64 ((rd_T50 ((rd_T53 t588 x10_2).f0) x11_3).f3))) (fun _ hk => hk.2) (.int .u64 ((rd_T50 ((rd_T53 t588 x10_2).f0) x11_3).f4))) (fun _ hk => hk.2) (.int .u64 ((rd_T50 ((rd_T53 t588 x10_2).f0) x11_3).f5))) (fun _ hk => hk.2) (.int .u64 ((rd_T50 ((rd_T53 t588 x10_2).f0) x11_3).f6))) (fun _ h_ => h_.1)))).2.2) hb); have n6_ := Aside0.mk (blk_below (g := gb594) (o := .cells #[.bool ((rd_T50 ((rd_T53 t588 x10_2).f0) x11_3).f0), .int .i64 ((rd_T50 ((rd_T53 t588 x10_2).f0) x11_3).f1), .int .i64 ((rd_T50 ((rd_T53 t588 x10_2).f0) x11_3).f2), .int .i64 ((rd_T50 ((rd_T53 t588 x10_2).f0) x11_3).f3), .int .u64 ((rd_T50 ((rd_T53 t588 x10_2).f0) x11_3).f4), .int .u64 ((rd_T50 ((rd_T53 t588 x10_2).f0) x11_3).f5), .int .u64 ((rd_T50 ((rd_T53 t588 x10_2).f0) x11_3).f6)] 50 (0, 0)) bk_now hb); have n7_ := Aside0.mk (below_step b_now hb); have n8_ := Aside0.mk (hbox); have n9_ := Aside0.mk ((by rw [hg]; exact (below_size b_now) : w.heap.size ≤ gb595)); have n10_ := Aside0.mk ((by rw [hg]; exact (below_size b_now) : w.heap.size ≤ gb595)); have n11_ := Aside0.mk ((by rw [hg]; exact Nat.ne_of_lt (blk_lt (g := gb585) (o := .cells #[.slice A1_0 l1_0.length c1_0, .int .u32 a1_1] 40 (0, 0)) bk_now) : gb585 ≠ gb595)); have n12_ := Aside0.mk ((by rw [hg]; exact Nat.ne_of_gt (blk_lt (g := gb585) (o := .cells #[.slice A1_0 l1_0.length c1_0, .int .u32 a1_1] 40 (0, 0)) bk_now) : gb595 ≠ gb585)); have n13_ := Aside0.mk ((by rw [hg]; exact Nat.ne_of_lt (blk_lt (g := gb594) (o := .cells #[.bool ((rd_T50 ((rd_T53 t588 x10_2).f0) x11_3).f0), .int .i64 ((rd_T50 ((rd_T53 t588 x10_2).f0) x11_3).f1), .int .i64 ((rd_T50 ((rd_T53 t588 x10_2).f0) x11_3).f2), .int .i64 ((rd_T50 ((rd_T53 t588 x10_2).f0) x11_3).f3), .int .u64 ((rd_T50 ((rd_T53 t588 x10_2).f0) x11_3).f4), .int .u64 ((rd_T50 ((rd_T53 t588 x10_2).f0) x11_3).f5), .int .u64 ((rd_T50 ((rd_T53 t588 x10_2).f0) x11_3).f6)] 50 (0, 0)) bk_now) : gb594 ≠ gb595)); have n14_ := Aside0.mk ((by rw [hg]; exact Nat.ne_of_gt (blk_lt (g := gb594) (o := .cells #[.bool ((rd_T50 ((rd_T53 t588 x10_2).f0) x11_3).f0), .int .i64 ((rd_T50 ((rd_T53 t588 x10_2).f0) x11_3).f1), .int .i64 ((rd_T50 ((rd_T53 t588 x10_2).f0) x11_3).f2), .int .i64 ((rd_T50 ((rd_T53 t588 x10_2).f0) x11_3).f3), .int .u64 ((rd_T50 ((rd_T53 t588 x10_2).f0) x11_3).f4), .int .u64 ((rd_T50 ((rd_T53 t588 x10_2).f0) x11_3).f5), .int .u64 ((rd_T50 ((rd_T53 t588 x10_2).f0) x11_3).f6)] 50 (0, 0)) bk_now) : gb595 ≠ gb594)); clear HO_9; clear HL591_0; clear HL592_0; clear BK585; clear HR591_0; clear HR592_0; clear BK594; clear HB; have HO_9 := n0_; have HL591_0 := n1_; have HL592_0 := n2_; have BK585 := n3_; have HR591_0 := n4_; have HR592_0 := n5_; have BK594 := n6_; have HB := n7_; have BK595 := n8_; have GW595 := n9_; have GE595 := n10_; have NB585_595 := n11_; have NB595_585 := n12_; have NB594_595 := n13_; have NB595_594 := n14_; clear n0_ n1_ n2_ n3_ n4_ n5_ n6_ n7_ n8_ n9_ n10_ n11_ n12_ n13_ n14_; clear hb hbox hg; have hnb53 := NB595_585.out; have hnc53 := NB585_595.out; have hnb54 := NB595_594.out; have hnc54 := NB594_595.out; have hcz55 := blk_all7 BK595.out; have hcz56 := blk_all7 BK594.out; have hcz57 := blk_all2 BK585.out) | ((with_reducible refine gate_callee (f := 20) rfl ?_); refine sh_call (some 68) Tryd.func20 #[.agg #[.bool ((rd_T50 ((rd_T53 t588 x10_2).f0) x11_3).f0), .int .i64 ((rd_T50 ((rd_T53 t588 x10_2).f0) x11_3).f1), .int .i64 ((rd_T50 ((rd_T53 t588 x10_2).f0) x11_3).f2), .int .i64 ((rd_T50 ((rd_T53 t588 x10_2).f0) x11_3).f3), .int .u64 ((rd_T50 ((rd_T53 t588 x10_2).f0) x11_3).f4), .int .u64 ((rd_T50 ((rd_T53 t588 x10_2).f0) x11_3).f5), .int .u64 ((rd_T50 ((rd_T53 t588 x10_2).f0) x11_3).f6)], .slice A1_0 l1_0.length c1_0, .int .u32 a1_1] ?_; (with_reducible refine (rule_Holds.calls k3 ((rd_T50 ((rd_T53 t588 x10_2).f0) x11_3).f0) ((rd_T50 ((rd_T53 t588 x10_2).f0) x11_3).f1) ((rd_T50 ((rd_T53 t588 x10_2).f0) x11_3).f2) ((rd_T50 ((rd_T53 t588 x10_2).f0) x11_3).f3) ((rd_T50 ((rd_T53 t588 x10_2).f0) x11_3).f4) ((rd_T50 ((rd_T53 t588 x10_2).f0) x11_3).f5) ((rd_T50 ((rd_T53 t588 x10_2).f0) x11_3).f6) _ _ l1_0 a1_1 false _ ?side1 ?side2 A21.out).mono ?_); (case side1 => exact Kd.C_below HR1_0.out b_now); (case side2 => exact HC1_0.out); rintro e w58 ⟨rfl, hb⟩; refine ⟨_, rfl, ?_⟩; have n0_ := Aside0.mk (Kd.N_below (by (with_reducible repeat (first | apply Kd.N_alloc | apply Kd.N_drewN | apply Kd.N_drew)); exact (Kd.N_mono (Kd.N_far (p := ⟨gb595, 0, none⟩) (Kd.N_far (p := ⟨gb595, 6, none⟩) (Kd.N_far (p := ⟨gb595, 5, none⟩) (Kd.N_far (p := ⟨gb595, 4, none⟩) (Kd.N_far (p := ⟨gb595, 3, none⟩) (Kd.N_far (p := ⟨gb595, 2, none⟩) (Kd.N_far (p := ⟨gb595, 1, none⟩) (Kd.N_far (p := ⟨gb595, 0, none⟩) (Kd.N_mono HO_9.out (fun k_ hk => (⟨hk, hk.2⟩ : _ ∧ k_ ≠ gb595))) (fun _ hk => hk.2) (.bool ((rd_T50 ((rd_T53 t588 x10_2).f0) x11_3).f0))) (fun _ hk => hk.2) (.int .i64 ((rd_T50 ((rd_T53 t588 x10_2).f0) x11_3).f1))) (fun _ hk => hk.2) (.int .i64 ((rd_T50 ((rd_T53 t588 x10_2).f0) x11_3).f2))) (fun _ hk => hk.2) (.int .i64 ((rd_T50 ((rd_T53 t588 x10_2).f0) x11_3).f3))) (fun _ hk => hk.2) (.int .u64 ((rd_T50 ((rd_T53 t588 x10_2).f0) x11_3).f4))) (fun _ hk => hk.2) (.int .u64 ((rd_T50 ((rd_T53 t588 x10_2).f0) x11_3).f5))) (fun _ hk => hk.2) (.int .u64 ((rd_T50 ((rd_T53 t588 x10_2).f0) x11_3).f6))) (fun _ hk => hk.2) (.bool (!((rd_T50 ((rd_T53 t588 x10_2).f0) x11_3).f0)))) (fun _ h_ => h_.1))) hb); have n1_ := Aside0.mk (Kd.V_below (by (with_reducible repeat (first | apply Kd.V_alloc | apply Kd.V_drewN | apply Kd.V_drew)); exact (Kd.V_mono (Kd.V_far (p := ⟨gb595, 0, none⟩) (Kd.V_far (p := ⟨gb595, 6, none⟩) (Kd.V_far (p := ⟨gb595, 5, none⟩) (Kd.V_far (p := ⟨gb595, 4, none⟩) (Kd.V_far (p := ⟨gb595, 3, none⟩) (Kd.V_far (p := ⟨gb595, 2, none⟩) (Kd.V_far (p := ⟨gb595, 1, none⟩) (Kd.V_far (p := ⟨gb595, 0, none⟩) (Kd.V_mono HL591_0.out (fun k_ hk => (⟨hk, hk.2⟩ : _ ∧ k_ ≠ gb595))) (fun _ hk => hk.2) (.bool ((rd_T50 ((rd_T53 t588 x10_2).f0) x11_3).f0))) (fun _ hk => hk.2) (.int .i64 ((rd_T50 ((rd_T53 t588 x10_2).f0) x11_3).f1))) (fun _ hk => hk.2) (.int .i64 ((rd_T50 ((rd_T53 t588 x10_2).f0) x11_3).f2))) (fun _ hk => hk.2) (.int .i64 ((rd_T50 ((rd_T53 t588 x10_2).f0) x11_3).f3))) (fun _ hk => hk.2) (.int .u64 ((rd_T50 ((rd_T53 t588 x10_2).f0) x11_3).f4))) (fun _ hk => hk.2) (.int .u64 ((rd_T50 ((rd_T53 t588 x10_2).f0) x11_3).f5))) (fun _ hk => hk.2) (.int .u64 ((rd_T50 ((rd_T53 t588 x10_2).f0) x11_3).f6))) (fun _ hk => hk.2) (.bool (!((rd_T50 ((rd_T53 t588 x10_2).f0) x11_3).f0)))) (fun _ h_ => h_.1))) hb); have n2_ := Aside0.mk (Kd.V_below (by (with_reducible repeat (first | apply Kd.V_alloc | apply Kd.V_drewN | apply Kd.V_drew)); exact (Kd.V_mono (Kd.V_far (p := ⟨gb595, 0, none⟩) (Kd.V_far (p := ⟨gb595, 6, none⟩) (Kd.V_far (p := ⟨gb595, 5, none⟩) (Kd.V_far (p := ⟨gb595, 4, none⟩) (Kd.V_far (p := ⟨gb595, 3, none⟩) (Kd.V_far (p := ⟨gb595, 2, none⟩) (Kd.V_far (p := ⟨gb595, 1, none⟩) (Kd.V_far (p := ⟨gb595, 0, none⟩) (Kd.V_mono HL592_0.out (fun k_ hk => (⟨hk, hk.2⟩ : _ ∧ k_ ≠ gb595))) (fun _ hk => hk.2) (.bool ((rd_T50 ((rd_T53 t588 x10_2).f0) x11_3).f0))) (fun _ hk => hk.2) (.int .i64 ((rd_T50 ((rd_T53 t588 x10_2).f0) x11_3).f1))) (fun _ hk => hk.2) (.int .i64 ((rd_T50 ((rd_T53 t588 x10_2).f0) x11_3).f2))) (fun _ hk => hk.2) (.int .i64 ((rd_T50 ((rd_T53 t588 x10_2).f0) x11_3).f3))) (fun _ hk => hk.2) (.int .u64 ((rd_T50 ((rd_T53 t588 x10_2).f0) x11_3).f4))) (fun _ hk => hk.2) (.int .u64 ((rd_T50 ((rd_T53 t588 x10_2).f0) x11_3).f5))) (fun _ hk => hk.2) (.int .u64 ((rd_T50 ((rd_T53 t588 x10_2).f0) x11_3).f6))) (fun _ hk => hk.2) (.bool (!((rd_T50 ((rd_T53 t588 x10_2).f0) x11_3).f0)))) (fun _ h_ => h_.1))) hb); have n3_ := Aside0.mk (blk_below (g := gb585) (o := .cells #[.slice A1_0 l1_0.length c1_0, .int .u32 a1_1] 40 (0, 0)) bk_now hb); have n4_ := Aside0.mk (Kd.C_below ((Kd.V_reads' (by (with_reducible repeat (first | apply Kd.V_alloc | apply Kd.V_drewN | apply Kd.V_drew)); exact (Kd.V_mono (Kd.V_far (p := ⟨gb595, 0, none⟩) (Kd.V_far (p := ⟨gb595, 6, none⟩) (Kd.V_far (p := ⟨gb595, 5, none⟩) (Kd.V_far (p := ⟨gb595, 4, none⟩) (Kd.V_far (p := ⟨gb595, 3, none⟩) (Kd.V_far (p := ⟨gb595, 2, none⟩) (Kd.V_far (p := ⟨gb595, 1, none⟩) (Kd.V_far (p := ⟨gb595, 0, none⟩) (Kd.V_mono HL591_0.out (fun k_ hk => (⟨hk, hk.2⟩ : _ ∧ k_ ≠ gb595))) (fun _ hk => hk.2) (.bool ((rd_T50 ((rd_T53 t588 x10_2).f0) x11_3).f0))) (fun _ hk => hk.2) (.int .i64 ((rd_T50 ((rd_T53 t588 x10_2).f0) x11_3).f1))) (fun _ hk => hk.2) (.int .i64 ((rd_T50 ((rd_T53 t588 x10_2).f0) x11_3).f2))) (fun _ hk => hk.2) (.int .i64 ((rd_T50 ((rd_T53 t588 x10_2).f0) x11_3).f3))) (fun _ hk => hk.2) (.int .u64 ((rd_T50 ((rd_T53 t588 x10_2).f0) x11_3).f4))) (fun _ hk => hk.2) (.int .u64 ((rd_T50 ((rd_T53 t588 x10_2).f0) x11_3).f5))) (fun _ hk => hk.2) (.int .u64 ((rd_T50 ((rd_T53 t588 x10_2).f0) x11_3).f6))) (fun _ hk => hk.2) (.bool (!((rd_T50 ((rd_T53 t588 x10_2).f0) x11_3).f0)))) (fun _ h_ => h_.1)))).2.2) hb); have n5_ := Aside0.mk (Kd.C_below ((Kd.V_reads' (by (with_reducible repeat (first | apply Kd.V_alloc | apply Kd.V_drewN | apply Kd.V_drew)); exact (Kd.V_mono (Kd.V_far (p := ⟨gb595, 0, none⟩) (Kd.V_far (p := ⟨gb595, 6, none⟩) (Kd.V_far (p := ⟨gb595, 5, none⟩) (Kd.V_far (p := ⟨gb595, 4, none⟩) (Kd.V_far (p := ⟨gb595, 3, none⟩) (Kd.V_far (p := ⟨gb595, 2, none⟩) (Kd.V_far (p := ⟨gb595, 1, none⟩) (Kd.V_far (p := ⟨gb595, 0, none⟩) (Kd.V_mono HL592_0.out (fun k_ hk => (⟨hk, hk.2⟩ : _ ∧ k_ ≠ gb595))) (fun _ hk => hk.2) (.bool ((rd_T50 ((rd_T53 t588 x10_2).f0) x11_3).f0))) (fun _ hk => hk.2) (.int .i64 ((rd_T50 ((rd_T53 t588 x10_2).f0) x11_3).f1))) (fun _ hk => hk.2) (.int .i64 ((rd_T50 ((rd_T53 t588 x10_2).f0) x11_3).f2))) (fun _ hk => hk.2) (.int .i64 ((rd_T50 ((rd_T53 t588 x10_2).f0) x11_3).f3))) (fun _ hk => hk.2) (.int .u64 ((rd_T50 ((rd_T53 t588 x10_2).f0) x11_3).f4))) (fun _ hk => hk.2) (.int .u64 ((rd_T50 ((rd_T53 t588 x10_2).f0) x11_3).f5))) (fun _ hk => hk.2) (.int .u64 ((rd_T50 ((rd_T53 t588 x10_2).f0) x11_3).f6))) (fun _ hk => hk.2) (.bool (!((rd_T50 ((rd_T53 t588 x10_2).f0) x11_3).f0)))) (fun _ h_ => h_.1)))).2.2) hb); have n6_ := Aside0.mk (blk_below (g := gb594) (o := .cells #[.bool ((rd_T50 ((rd_T53 t588 x10_2).f0) x11_3).f0), .int .i64 ((rd_T50 ((rd_T53 t588 x10_2).f0) x11_3).f1), .int .i64 ((rd_T50 ((rd_T53 t588 x10_2).f0) x11_3).f2), .int .i64 ((rd_T50 ((rd_T53 t588 x10_2).f0) x11_3).f3), .int .u64 ((rd_T50 ((rd_T53 t588 x10_2).f0) x11_3).f4), .int .u64 ((rd_T50 ((rd_T53 t588 x10_2).f0) x11_3).f5), .int .u64 ((rd_T50 ((rd_T53 t588 x10_2).f0) x11_3).f6)] 50 (0, 0)) bk_now hb); have n7_ := Aside0.mk (blk_below (g := gb595) (o := .cells #[.bool (!((rd_T50 ((rd_T53 t588 x10_2).f0) x11_3).f0)), .int .i64 ((rd_T50 ((rd_T53 t588 x10_2).f0) x11_3).f1), .int .i64 ((rd_T50 ((rd_T53 t588 x10_2).f0) x11_3).f2), .int .i64 ((rd_T50 ((rd_T53 t588 x10_2).f0) x11_3).f3), .int .u64 ((rd_T50 ((rd_T53 t588 x10_2).f0) x11_3).f4), .int .u64 ((rd_T50 ((rd_T53 t588 x10_2).f0) x11_3).f5), .int .u64 ((rd_T50 ((rd_T53 t588 x10_2).f0) x11_3).f6)] 50 (0, 0)) bk_now hb); have n8_ := Aside0.mk (below_step b_now hb); clear HO_9; clear HL591_0; clear HL592_0; clear BK585; clear HR591_0; clear HR592_0; clear BK594; clear BK595; clear HB; have HO_9 := n0_; have HL591_0 := n1_; have HL592_0 := n2_; have BK585 := n3_; have HR591_0 := n4_; have HR592_0 := n5_; have BK594 := n6_; have BK595 := n7_; have HB := n8_; clear n0_ n1_ n2_ n3_ n4_ n5_ n6_ n7_ n8_; (try clear hb); (try clear hb2); (try clear hk); (try clear hi); have hcz59 := blk_all7 BK595.out; have hcz60 := blk_all2 BK585.out) | ((with_reducible refine gate_callee (f := 20) rfl ?_); refine sh_call (some 74) Tryd.func20 #[.agg #[.bool (!((rd_T50 ((rd_T53 t588 x10_2).f0) x11_3).f0)), .int .i64 ((rd_T50 ((rd_T53 t588 x10_2).f0) x11_3).f1), .int .i64 ((rd_T50 ((rd_T53 t588 x10_2).f0) x11_3).f2), .int .i64 ((rd_T50 ((rd_T53 t588 x10_2).f0) x11_3).f3), .int .u64 ((rd_T50 ((rd_T53 t588 x10_2).f0) x11_3).f4), .int .u64 ((rd_T50 ((rd_T53 t588 x10_2).f0) x11_3).f5), .int .u64 ((rd_T50 ((rd_T53 t588 x10_2).f0) x11_3).f6)], .slice A1_0 l1_0.length c1_0, .int .u32 a1_1] ?_; (with_reducible refine (rule_Holds.calls k3 (!((rd_T50 ((rd_T53 t588 x10_2).f0) x11_3).f0)) ((rd_T50 ((rd_T53 t588 x10_2).f0) x11_3).f1) ((rd_T50 ((rd_T53 t588 x10_2).f0) x11_3).f2) ((rd_T50 ((rd_T53 t588 x10_2).f0) x11_3).f3) ((rd_T50 ((rd_T53 t588 x10_2).f0) x11_3).f4) ((rd_T50 ((rd_T53 t588 x10_2).f0) x11_3).f5) ((rd_T50 ((rd_T53 t588 x10_2).f0) x11_3).f6) _ _ l1_0 a1_1 t597 _ ?side1 ?side2 A22.out).mono ?_); (case side1 => repeat (first | exact (Kd.C_below HR1_0.out HB.out) | (with_reducible refine Kd.C_alloc ?_ _) | (with_reducible refine Kd.C_drewN ?_ _) | (with_reducible refine Kd.C_drew ?_))); (case side2 => exact HC1_0.out); rintro e w61 ⟨rfl, hb⟩; refine ⟨_, rfl, ?_⟩; replace HO_9 := Aside0.mk (Kd.N_below (by (with_reducible repeat (first | apply Kd.N_alloc | apply Kd.N_drewN | apply Kd.N_drew)); exact HO_9.out) hb); replace HL591_0 := Aside0.mk (Kd.V_below (by (with_reducible repeat (first | apply Kd.V_alloc | apply Kd.V_drewN | apply Kd.V_drew)); exact HL591_0.out) hb); replace HL592_0 := Aside0.mk (Kd.V_below (by (with_reducible repeat (first | apply Kd.V_alloc | apply Kd.V_drewN | apply Kd.V_drew)); exact HL592_0.out) hb); replace BK585 := sh_k BK585 hb; replace HR591_0 := Aside0.mk (Kd.C_below (by repeat (first | (with_reducible exact HR591_0.out) | (with_reducible refine Kd.C_alloc ?_ _) | (with_reducible refine Kd.C_drewN ?_ _) | (with_reducible refine Kd.C_drew ?_) | exact HR591_0.out)) hb); replace HR592_0 := Aside0.mk (Kd.C_below (by repeat (first | (with_reducible exact HR592_0.out) | (with_reducible refine Kd.C_alloc ?_ _) | (with_reducible refine Kd.C_drewN ?_ _) | (with_reducible refine Kd.C_drew ?_) | exact HR592_0.out)) hb); replace BK594 := sh_k BK594 hb; replace BK595 := sh_k BK595 hb; replace HB := sh_b (w := w) hb; (try clear hb); (try clear hb2); (try clear hk); (try clear hi); have hcz62 := blk_all7 BK594.out) | ((with_reducible refine gate_dst (N := 77) rfl ?_); (try (refine gate_guard (by rfl) ?_; dsimp only)); refine Kd.R_lit k50 _ 50 ?hg (N := 77) ?hd (xs := ([(⟨(rd_T50 ((rd_T53 t588 x10_2).f0) x11_3).f0, (rd_T50 ((rd_T53 t588 x10_2).f0) x11_3).f1, (rd_T50 ((rd_T53 t588 x10_2).f0) x11_3).f2, (rd_T50 ((rd_T53 t588 x10_2).f0) x11_3).f3, (rd_T50 ((rd_T53 t588 x10_2).f0) x11_3).f4, (rd_T50 ((rd_T53 t588 x10_2).f0) x11_3).f5, (rd_T50 ((rd_T53 t588 x10_2).f0) x11_3).f6⟩ : S50)] : List (S50))) (inner := [.bool ((rd_T50 ((rd_T53 t588 x10_2).f0) x11_3).f0), .int .i64 ((rd_T50 ((rd_T53 t588 x10_2).f0) x11_3).f1), .int .i64 ((rd_T50 ((rd_T53 t588 x10_2).f0) x11_3).f2), .int .i64 ((rd_T50 ((rd_T53 t588 x10_2).f0) x11_3).f3), .int .u64 ((rd_T50 ((rd_T53 t588 x10_2).f0) x11_3).f4), .int .u64 ((rd_T50 ((rd_T53 t588 x10_2).f0) x11_3).f5), .int .u64 ((rd_T50 ((rd_T53 t588 x10_2).f0) x11_3).f6)]) (ok := fun _ => True) (okp := fun _ => True) ?hr ?hp (fun _ hk => hk) trivial (Below.refl _ _) (Nat.le_refl _) (by simp) ?_; (case hd => rfl); (case hg => rfl); (case hr => first | (go_simp; done) | (go_simp; rfl)); (case hp => exact (Reps.c7 (show Kd.M k50 _ _ _ (⟨(rd_T50 ((rd_T53 t588 x10_2).f0) x11_3).f0, (rd_T50 ((rd_T53 t588 x10_2).f0) x11_3).f1, (rd_T50 ((rd_T53 t588 x10_2).f0) x11_3).f2, (rd_T50 ((rd_T53 t588 x10_2).f0) x11_3).f3, (rd_T50 ((rd_T53 t588 x10_2).f0) x11_3).f4, (rd_T50 ((rd_T53 t588 x10_2).f0) x11_3).f5, (rd_T50 ((rd_T53 t588 x10_2).f0) x11_3).f6⟩ : S50) [.bool ((rd_T50 ((rd_T53 t588 x10_2).f0) x11_3).f0), .int .i64 ((rd_T50 ((rd_T53 t588 x10_2).f0) x11_3).f1), .int .i64 ((rd_T50 ((rd_T53 t588 x10_2).f0) x11_3).f2), .int .i64 ((rd_T50 ((rd_T53 t588 x10_2).f0) x11_3).f3), .int .u64 ((rd_T50 ((rd_T53 t588 x10_2).f0) x11_3).f4), .int .u64 ((rd_T50 ((rd_T53 t588 x10_2).f0) x11_3).f5), .int .u64 ((rd_T50 ((rd_T53 t588 x10_2).f0) x11_3).f6)] from (k50_mkM _ _ _ (⟨(rd_T50 ((rd_T53 t588 x10_2).f0) x11_3).f0, (rd_T50 ((rd_T53 t588 x10_2).f0) x11_3).f1, (rd_T50 ((rd_T53 t588 x10_2).f0) x11_3).f2, (rd_T50 ((rd_T53 t588 x10_2).f0) x11_3).f3, (rd_T50 ((rd_T53 t588 x10_2).f0) x11_3).f4, (rd_T50 ((rd_T53 t588 x10_2).f0) x11_3).f5, (rd_T50 ((rd_T53 t588 x10_2).f0) x11_3).f6⟩ : S50) )) (Reps.none _ _))); intro v599 w63 ho64 hb hg_ hnew_; clear hg_ hnew_; (first | rw [← Ny598.out] at ho64 | (simp only [Int.reduceToNat] at ho64; rw [← Ny598.out] at ho64)); have HO600 := Aside0.mk (Kd.R_lower (Kd.R_newB (Kd.R_newB ho64 (g := gb594) (o := .cells #[.bool ((rd_T50 ((rd_T53 t588 x10_2).f0) x11_3).f0), .int .i64 ((rd_T50 ((rd_T53 t588 x10_2).f0) x11_3).f1), .int .i64 ((rd_T50 ((rd_T53 t588 x10_2).f0) x11_3).f2), .int .i64 ((rd_T50 ((rd_T53 t588 x10_2).f0) x11_3).f3), .int .u64 ((rd_T50 ((rd_T53 t588 x10_2).f0) x11_3).f4), .int .u64 ((rd_T50 ((rd_T53 t588 x10_2).f0) x11_3).f5), .int .u64 ((rd_T50 ((rd_T53 t588 x10_2).f0) x11_3).f6)] 50 (0, 0)) bk_now) (g := gb595) (o := .cells #[.bool (!((rd_T50 ((rd_T53 t588 x10_2).f0) x11_3).f0)), .int .i64 ((rd_T50 ((rd_T53 t588 x10_2).f0) x11_3).f1), .int .i64 ((rd_T50 ((rd_T53 t588 x10_2).f0) x11_3).f2), .int .i64 ((rd_T50 ((rd_T53 t588 x10_2).f0) x11_3).f3), .int .u64 ((rd_T50 ((rd_T53 t588 x10_2).f0) x11_3).f4), .int .u64 ((rd_T50 ((rd_T53 t588 x10_2).f0) x11_3).f5), .int .u64 ((rd_T50 ((rd_T53 t588 x10_2).f0) x11_3).f6)] 50 (0, 0)) bk_now) (below_size b_now)); replace HO_9 := Aside0.mk (Kd.N_elder' (by (with_reducible repeat (first | apply Kd.N_alloc | apply Kd.N_drewN | apply Kd.N_drew)); exact HO_9.out) (Kd.R_base ho64) hb); replace HL591_0 := Aside0.mk (Kd.V_elder' (by (with_reducible repeat (first | apply Kd.V_alloc | apply Kd.V_drewN | apply Kd.V_drew)); exact HL591_0.out) (Kd.R_base ho64) hb); replace HL592_0 := Aside0.mk (Kd.V_elder' (by (with_reducible repeat (first | apply Kd.V_alloc | apply Kd.V_drewN | apply Kd.V_drew)); exact HL592_0.out) (Kd.R_base ho64) hb); replace BK585 := sh_k BK585 hb; replace HR591_0 := Aside0.mk (Kd.C_below (by repeat (first | (with_reducible exact HR591_0.out) | (with_reducible refine Kd.C_alloc ?_ _) | (with_reducible refine Kd.C_drewN ?_ _) | (with_reducible refine Kd.C_drew ?_) | exact HR591_0.out)) hb); replace HR592_0 := Aside0.mk (Kd.C_below (by repeat (first | (with_reducible exact HR592_0.out) | (with_reducible refine Kd.C_alloc ?_ _) | (with_reducible refine Kd.C_drewN ?_ _) | (with_reducible refine Kd.C_drew ?_) | exact HR592_0.out)) hb); replace BK594 := sh_k BK594 hb; replace BK595 := sh_k BK595 hb; replace HB := sh_b (w := w) hb; clear hb ho64; obtain ⟨Ao65, co65, eo65⟩ := Kd.R_slice HO600.out; subst eo65) | ((with_reducible refine gate_dst (N := 79) rfl ?_); (try (refine gate_guard (by rfl) ?_; dsimp only)); refine Kd.N_lit k53 _ 53 ?hg (N' := 79) ?hd (xs := ([(⟨y598, 0⟩ : S53)] : List (S53))) (inner := [.slice Ao65 y598.length co65, .int .u32 0]) (ok := (fun k_ => some k_ ≠ (.slice (some ad591) t588.length co16 : Value).ownBlock ∧ k_ ≠ gb585 ∧ k_ ≠ gb594 ∧ k_ ≠ gb595)) (okp := (fun k_ => some k_ ≠ (.slice (some ad591) t588.length co16 : Value).ownBlock ∧ k_ ≠ gb585 ∧ k_ ≠ gb594 ∧ k_ ≠ gb595)) ?hr ?hp (fun _ hk => hk) ((show ∀ k_, w63.heap.size ≤ k_ → (fun k_ => some k_ ≠ (.slice (some ad591) t588.length co16 : Value).ownBlock ∧ k_ ≠ gb585 ∧ k_ ≠ gb594 ∧ k_ ≠ gb595) k_ from fun k_ hk => ⟨Kd.fresh' (Kd.N_lt (by (with_reducible repeat (first | apply Kd.N_alloc | apply Kd.N_drewN | apply Kd.N_drew)); exact HO_9.out)) k_ hk, Kd.freshB (g := gb585) (o := .cells #[.slice A1_0 l1_0.length c1_0, .int .u32 a1_1] 40 (0, 0)) bk_now k_ hk, Kd.freshB (g := gb594) (o := .cells #[.bool ((rd_T50 ((rd_T53 t588 x10_2).f0) x11_3).f0), .int .i64 ((rd_T50 ((rd_T53 t588 x10_2).f0) x11_3).f1), .int .i64 ((rd_T50 ((rd_T53 t588 x10_2).f0) x11_3).f2), .int .i64 ((rd_T50 ((rd_T53 t588 x10_2).f0) x11_3).f3), .int .u64 ((rd_T50 ((rd_T53 t588 x10_2).f0) x11_3).f4), .int .u64 ((rd_T50 ((rd_T53 t588 x10_2).f0) x11_3).f5), .int .u64 ((rd_T50 ((rd_T53 t588 x10_2).f0) x11_3).f6)] 50 (0, 0)) bk_now k_ hk, Kd.freshB (g := gb595) (o := .cells #[.bool (!((rd_T50 ((rd_T53 t588 x10_2).f0) x11_3).f0)), .int .i64 ((rd_T50 ((rd_T53 t588 x10_2).f0) x11_3).f1), .int .i64 ((rd_T50 ((rd_T53 t588 x10_2).f0) x11_3).f2), .int .i64 ((rd_T50 ((rd_T53 t588 x10_2).f0) x11_3).f3), .int .u64 ((rd_T50 ((rd_T53 t588 x10_2).f0) x11_3).f4), .int .u64 ((rd_T50 ((rd_T53 t588 x10_2).f0) x11_3).f5), .int .u64 ((rd_T50 ((rd_T53 t588 x10_2).f0) x11_3).f6)] 50 (0, 0)) bk_now k_ hk⟩) _ (Nat.le_refl _)) (Below.refl _ _) (Nat.le_refl _) (by simp) ?_; (case hd => rfl); (case hg => rfl); (case hr => first | (go_simp; done) | (go_simp; rfl)); (case hp => exact (Reps.c2 (show Kd.FK k53 _ _ (⟨y598, 0⟩ : S53) [.slice Ao65 y598.length co65, .int .u32 0] from (k53_mkF _ _ (⟨y598, 0⟩ : S53) (Kd.R_reads' (Kd.R_mono (ok' := (fun k_ => some k_ ≠ (.slice (some ad591) t588.length co16 : Value).ownBlock ∧ k_ ≠ gb585 ∧ k_ ≠ gb594 ∧ k_ ≠ gb595)) (Kd.R_types (Kd.R_apart' (HO600.out) (Kd.N_typed HO_9.out) (by decide)) BK585.out (by decide)) (fun k_ hk => ⟨hk.1.2, ⟨hk.2, ⟨hk.1.1.1.2, hk.1.1.2⟩⟩⟩))).2.1 (Kd.R_F (Kd.R_mono (ok' := (fun k_ => some k_ ≠ (.slice (some ad591) t588.length co16 : Value).ownBlock ∧ k_ ≠ gb585 ∧ k_ ≠ gb594 ∧ k_ ≠ gb595)) (Kd.R_types (Kd.R_apart' (HO600.out) (Kd.N_typed HO_9.out) (by decide)) BK585.out (by decide)) (fun k_ hk => ⟨hk.1.2, ⟨hk.2, ⟨hk.1.1.1.2, hk.1.1.2⟩⟩⟩))))) (Reps.none _ _))); intro v602 w66 ho67 hb hg_ hnew_; clear hg_ hnew_; (first | rw [← Ny601.out] at ho67 | (simp only [Int.reduceToNat] at ho67; rw [← Ny601.out] at ho67)); have n0_ := Aside0.mk (Kd.N_elder' (by (with_reducible repeat (first | apply Kd.N_alloc | apply Kd.N_drewN | apply Kd.N_drew)); exact HO_9.out) (Kd.N_base ho67) hb); have n1_ := Aside0.mk (Kd.V_elder' (by (with_reducible repeat (first | apply Kd.V_alloc | apply Kd.V_drewN | apply Kd.V_drew)); exact HL591_0.out) (Kd.N_base ho67) hb); have n2_ := Aside0.mk (Kd.V_elder' (by (with_reducible repeat (first | apply Kd.V_alloc | apply Kd.V_drewN | apply Kd.V_drew)); exact HL592_0.out) (Kd.N_base ho67) hb); have n3_ := Aside0.mk (Kd.N_lower ho67 (below_size b_now)); have n4_ := Aside0.mk (blk_below (g := gb585) (o := .cells #[.slice A1_0 l1_0.length c1_0, .int .u32 a1_1] 40 (0, 0)) bk_now hb); have n5_ := Aside0.mk (Kd.C_below (by repeat (first | (with_reducible exact HR591_0.out) | (with_reducible refine Kd.C_alloc ?_ _) | (with_reducible refine Kd.C_drewN ?_ _) | (with_reducible refine Kd.C_drew ?_) | exact HR591_0.out)) hb); have n6_ := Aside0.mk (Kd.C_below (by repeat (first | (with_reducible exact HR592_0.out) | (with_reducible refine Kd.C_alloc ?_ _) | (with_reducible refine Kd.C_drewN ?_ _) | (with_reducible refine Kd.C_drew ?_) | exact HR592_0.out)) hb); have n7_ := Aside0.mk (blk_below (g := gb594) (o := .cells #[.bool ((rd_T50 ((rd_T53 t588 x10_2).f0) x11_3).f0), .int .i64 ((rd_T50 ((rd_T53 t588 x10_2).f0) x11_3).f1), .int .i64 ((rd_T50 ((rd_T53 t588 x10_2).f0) x11_3).f2), .int .i64 ((rd_T50 ((rd_T53 t588 x10_2).f0) x11_3).f3), .int .u64 ((rd_T50 ((rd_T53 t588 x10_2).f0) x11_3).f4), .int .u64 ((rd_T50 ((rd_T53 t588 x10_2).f0) x11_3).f5), .int .u64 ((rd_T50 ((rd_T53 t588 x10_2).f0) x11_3).f6)] 50 (0, 0)) bk_now hb); have n8_ := Aside0.mk (blk_below (g := gb595) (o := .cells #[.bool (!((rd_T50 ((rd_T53 t588 x10_2).f0) x11_3).f0)), .int .i64 ((rd_T50 ((rd_T53 t588 x10_2).f0) x11_3).f1), .int .i64 ((rd_T50 ((rd_T53 t588 x10_2).f0) x11_3).f2), .int .i64 ((rd_T50 ((rd_T53 t588 x10_2).f0) x11_3).f3), .int .u64 ((rd_T50 ((rd_T53 t588 x10_2).f0) x11_3).f4), .int .u64 ((rd_T50 ((rd_T53 t588 x10_2).f0) x11_3).f5), .int .u64 ((rd_T50 ((rd_T53 t588 x10_2).f0) x11_3).f6)] 50 (0, 0)) bk_now hb); have n9_ := Aside0.mk (below_step b_now hb); clear HO_9; clear HL591_0; clear HL592_0; clear BK585; clear HR591_0; clear HR592_0; clear BK594; clear BK595; clear HB; clear HO600; have HO_9 := n0_; have HL591_0 := n1_; have HL592_0 := n2_; have HO603 := n3_; have BK585 := n4_; have HR591_0 := n5_; have HR592_0 := n6_; have BK594 := n7_; have BK595 := n8_; have HB := n9_; clear n0_ n1_ n2_ n3_ n4_ n5_ n6_ n7_ n8_ n9_; clear hb ho67; obtain ⟨Ao68, co68, eo68⟩ := Kd.N_slice HO603.out; subst eo68) | ((with_reducible refine gate_callee (f := 13) rfl ?_); refine sh_call (some 80) Tryd.func13 #[.slice Ao68 y601.length co68] ?_; (with_reducible refine (rule_Check.calls k3 _ _ y601 t604 t605 _ ?side1 ?side2 A23.out).mono ?_); (case side1 => repeat (first | exact (Kd.N_reads' HO603.out).2.2 | (with_reducible refine Kd.C_alloc ?_ _) | (with_reducible refine Kd.C_drewN ?_ _) | (with_reducible refine Kd.C_drew ?_))); (case side2 => exact (Kd.N_reads' HO603.out).2.1); rintro e w69 ⟨rfl, hb⟩; refine ⟨_, rfl, ?_⟩; replace HO_9 := Aside0.mk (Kd.N_below (by (with_reducible repeat (first | apply Kd.N_alloc | apply Kd.N_drewN | apply Kd.N_drew)); exact HO_9.out) hb); replace HL591_0 := Aside0.mk (Kd.V_below (by (with_reducible repeat (first | apply Kd.V_alloc | apply Kd.V_drewN | apply Kd.V_drew)); exact HL591_0.out) hb); replace HL592_0 := Aside0.mk (Kd.V_below (by (with_reducible repeat (first | apply Kd.V_alloc | apply Kd.V_drewN | apply Kd.V_drew)); exact HL592_0.out) hb); replace HO603 := Aside0.mk (Kd.N_below (by (with_reducible repeat (first | apply Kd.N_alloc | apply Kd.N_drewN | apply Kd.N_drew)); exact HO603.out) hb); replace BK585 := sh_k BK585 hb; replace HR591_0 := Aside0.mk (Kd.C_below (by repeat (first | (with_reducible exact HR591_0.out) | (with_reducible refine Kd.C_alloc ?_ _) | (with_reducible refine Kd.C_drewN ?_ _) | (with_reducible refine Kd.C_drew ?_) | exact HR591_0.out)) hb); replace HR592_0 := Aside0.mk (Kd.C_below (by repeat (first | (with_reducible exact HR592_0.out) | (with_reducible refine Kd.C_alloc ?_ _) | (with_reducible refine Kd.C_drewN ?_ _) | (with_reducible refine Kd.C_drew ?_) | exact HR592_0.out)) hb); replace BK594 := sh_k BK594 hb; replace BK595 := sh_k BK595 hb; replace HB := sh_b (w := w) hb; (try clear hb); (try clear hb2); (try clear hk); (try clear hi)))
               go_roundg k3
               case measure => have := HJ4.out; have := HK2.out; have := HK3.out; omega
               case rel => exact ⟨(wrap64 (x11_3 + 1)), eq_now, H', ⟨by have := HJ4.out; have := HK2.out; have := HK3.out; omega⟩, ⟨by (with_reducible repeat (first | apply Kd.N_alloc | apply Kd.N_drewN | apply Kd.N_drew)); exact Kd.N_mono HO_9.out (fun _ hk => hk.1.1.1.1)⟩, ⟨bk_now⟩, ⟨b_now⟩⟩
            ·rw [if_neg c20] at H
             exact absurd H (by simp)
           ·rw [if_neg c19] at H
            have c19b0 : decide (x11_3 < (((rd_T53 t588 x10_2).f0).length : Int)) = false := decide_eq_false c19
            clear c19
            have H' := Aside0.mk H
            clear H
            have p591 : 0 ≤ (x10_2 : Int) := of_decide_eq_true (by first | (with_reducible assumption) | assumption)
            have q591 : x10_2 < (t588.length : Int) := of_decide_eq_true (by first | (with_reducible assumption) | assumption)
            obtain ⟨ad591, A591_0, c591_0, e591, hx591_0, hx591_1, hl591_0, hi591_0⟩ := at_T53 (Kd.N_reads' HO_9.out).2.2 x10_2 p591 q591
            cases e591
            obtain ⟨ce591, hce591, hMe591, hcc591⟩ := Kd.N_get HO_9.out z53 x10_2 p591 (by first | exact q591 | exact of_decide_eq_true (by first | (with_reducible assumption) | assumption) | (have e_ := (Kd.N_reads' HO_9.out).1; omega))
            obtain ⟨ua591_0, uc591_0, rfl, ul591_0, ge591_0⟩ := k53_openF hMe591
            have hv591_0 := hcc591 0 _ rfl
            rw [Nat.add_zero] at hv591_0
            replace hv591_0 := Option.some.inj (hv591_0.symm.trans hx591_0)
            injection hv591_0 with hva_ hvn_ hvc_
            rw [hva_] at ge591_0
            rw [hvc_] at ul591_0
            have HL591_0 := Aside0.mk (show Kd.V k50 50 _ w.heap.size _ _ ((rd_T53 t588 x10_2).f0) from Kd.V_mk ul591_0 ge591_0)
            clear hva_ hvn_ hvc_ ge591_0 ul591_0
            clear hcc591 hce591
            have HR591_0 := Aside0.mk hi591_0
            have HC591_0 := Aside0.mk hl591_0
            clear hi591_0 hl591_0
            replace p591 := eq_true p591
            replace q591 := eq_true q591
            go_wp2
            go_roundg k3
            case measure => have := HJ4.out; have := HK2.out; have := HK3.out; omega
            case rel => exact ⟨(wrap64 (x10_2 + 1)), eq_now, H', ⟨by have := HJ4.out; have := HK2.out; have := HK3.out; omega⟩, ⟨by (with_reducible repeat (first | apply Kd.N_alloc | apply Kd.N_drewN | apply Kd.N_drew)); exact HO_9.out⟩, ⟨bk_now⟩, ⟨b_now⟩⟩
          ·rw [if_neg c18] at H
           exact absurd H (by simp)
         ·rw [if_neg c17] at H
          exact absurd H (by simp)
      ·rw [if_neg c15] at H
       have c15b0 : decide (x10_2 < (t588.length : Int)) = false := decide_eq_false c15
       clear c15
       by_cases c70 : (l1_0.length : Int) ≤ 337
       ·rw [if_pos c70] at H
        have c70b0 : decide ((l1_0.length : Int) ≤ 337) = true := decide_eq_true c70
        have c70b1 : decide (l1_0.length ≤ 337) = true := decide_eq_true (by omega)
        clear c70
        replace H := Option.bind_eq_some_iff.mp H; obtain ⟨t606, A710, H⟩ := H; try dsimp only at H
        have A71 := Aside0.mk A710
        clear A710
        obtain rfl := Option.some.inj H
        obtain ⟨Ao72, co72, eo72⟩ := Kd.N_slice HO_9.out
        subst eo72
        have hcz73 := blk_all2 BK585.out
        go_wp2_with (first | ((with_reducible refine gate_callee (f := 11) rfl ?_); refine sh_call (some 100) Tryd.func11 #[] ?_; (with_reducible refine (stockadelaw18_wakes.calls k2  t606 _ ?side1 (by first | rfl | exact HRT.out) A71.out).mono ?_); (case side1 => repeat (first | exact (Kd.C_below HRG0.out HB.out) | (with_reducible refine Kd.C_alloc ?_ _) | (with_reducible refine Kd.C_drewN ?_ _) | (with_reducible refine Kd.C_drew ?_))); rintro e w74 ⟨rfl, hb⟩; refine ⟨_, rfl, ?_⟩; replace HO_9 := Aside0.mk (Kd.N_below (by (with_reducible repeat (first | apply Kd.N_alloc | apply Kd.N_drewN | apply Kd.N_drew)); exact HO_9.out) hb); replace BK585 := sh_k BK585 hb; replace HB := sh_b (w := w) hb; (try clear hb); (try clear hb2); (try clear hk); (try clear hi)))
        go_ret
        exact ⟨ret_now, b_now⟩
       ·rw [if_neg c70] at H
        have c70b0 : decide ((l1_0.length : Int) ≤ 337) = false := decide_eq_false c70
        have c70b1 : decide (l1_0.length ≤ 337) = false := decide_eq_false (by omega)
        clear c70
        by_cases c75 : ([] : List Int).length + l1_0.length < 140737488355328
        ·rw [if_pos c75] at H
         have LMc75 := Aside0.mk c75
         clear c75
         obtain ⟨y607, hy607⟩ : ∃ y_ : List Int, y_ = (([] : List Int) ++ l1_0) := ⟨_, rfl⟩
         replace H : (if (wrap64 ((y607.length : Int) - 337)) = 0 then (none) else (if 0 ≤ (wrap64 (337 + (Int.tmod (wrap64 (a2)) (wrap64 ((y607.length : Int) - 337))))) then (if (wrap64 (337 + (Int.tmod (wrap64 (a2)) (wrap64 ((y607.length : Int) - 337))))) < (y607.length : Int) then ((rule_Judge.f k2 t588 l1_0 a1_1).bind fun bt611 => ((rule_Judge.f k2 t588 (y607.set ((wrap64 (337 + (Int.tmod (wrap64 (a2)) (wrap64 ((y607.length : Int) - 337))))) : Int).toNat a3) a1_1).bind fun bt613 => (if bt611.1 = bt613.1 then (if bt611.2 = bt613.2 then ((stockadelaw18_wakes.f k2).bind fun t615 => (some t615)) else (some false)) else (some false)))) else (none)) else (none))) = some r := by first | (rw [hy607]; with_reducible exact H) | (have H2_ := (Option.bind_some _ _).symm.trans H; rw [hy607]; with_reducible exact H2_) | (have H2_ := (Option.bind_some _ _).symm.trans H; with_reducible exact H2_) | with_reducible exact H | (rw [hy607]; exact H) | exact H
         have Ny607 := Aside0.mk hy607
         clear hy607
         by_cases c76 : (wrap64 ((y607.length : Int) - 337)) = 0
         ·rw [if_pos c76] at H
          exact absurd H (by simp)
         ·rw [if_neg c76] at H
          have c76b0 : ((wrap64 ((y607.length : Int) - 337)) == 0) = false := beq_eq_false_iff_ne.mpr c76
          have c76b1 : ((wrap64 ((y607.length : Int) - 337)) != 0) = true := bne_iff_ne.mpr c76
          obtain ⟨ji77, hji77⟩ : ∃ j_ : Int, (wrap64 (337 + (Int.tmod (wrap64 (a2)) (wrap64 ((y607.length : Int) - 337))))) = j_ := ⟨_, rfl⟩
          replace H : (if 0 ≤ (ji77) then (if (ji77) < (y607.length : Int) then ((rule_Judge.f k2 t588 l1_0 a1_1).bind fun bt611 => ((rule_Judge.f k2 t588 (y607.set ((ji77) : Int).toNat a3) a1_1).bind fun bt613 => (if bt611.1 = bt613.1 then (if bt611.2 = bt613.2 then ((stockadelaw18_wakes.f k2).bind fun t615 => (some t615)) else (some false)) else (some false)))) else (none)) else (none)) = some r := by first | (rw [hji77] at H; exact H) | (simp only [hji77] at H ⊢; exact H)
          have hji77w : (IntKind.i64.wrap (337 + (Int.tmod (wrap64 (a2)) (wrap64 ((y607.length : Int) - 337))))) = ji77 := (i64_w _).trans hji77
          by_cases c78 : 0 ≤ (ji77)
          ·rw [if_pos c78] at H
           have c78b0 : decide (0 ≤ (ji77)) = true := decide_eq_true c78
           clear c78
           by_cases c79 : (ji77) < (y607.length : Int)
           ·rw [if_pos c79] at H
            have c79b0 : decide ((ji77) < (y607.length : Int)) = true := decide_eq_true c79
            clear c79
            obtain ⟨y610, hy610⟩ : ∃ y_ : List Int, y_ = (y607.set ((ji77) : Int).toNat a3) := ⟨_, rfl⟩
            replace H : ((rule_Judge.f k2 t588 l1_0 a1_1).bind fun bt611 => ((rule_Judge.f k2 t588 y610 a1_1).bind fun bt613 => (if bt611.1 = bt613.1 then (if bt611.2 = bt613.2 then ((stockadelaw18_wakes.f k2).bind fun t615 => (some t615)) else (some false)) else (some false)))) = some r := by first | (rw [hy610]; with_reducible exact H) | (have H2_ := (Option.bind_some _ _).symm.trans H; rw [hy610]; with_reducible exact H2_) | (have H2_ := (Option.bind_some _ _).symm.trans H; with_reducible exact H2_) | with_reducible exact H | (rw [hy610]; exact H) | exact H
            have Ny610 := Aside0.mk hy610
            clear hy610
            replace H := Option.bind_eq_some_iff.mp H; obtain ⟨⟨t611, t612⟩, A810, H⟩ := H; try dsimp only at H
            have A81 := Aside0.mk A810
            clear A810
            replace H := Option.bind_eq_some_iff.mp H; obtain ⟨⟨t613, t614⟩, A820, H⟩ := H; try dsimp only at H
            have A82 := Aside0.mk A820
            clear A820
            by_cases c83 : t611 = t613
            ·rw [if_pos c83] at H
             have c83b0 : (t611 == t613) = true := beq_iff_eq.mpr c83
             have c83b1 : (t611 != t613) = false := bne_eq_false_iff_eq.mpr c83
             clear c83
             by_cases c84 : t612 = t614
             ·rw [if_pos c84] at H
              have c84b0 : (t612 == t614) = true := beq_iff_eq.mpr c84
              have c84b1 : (t612 != t614) = false := bne_eq_false_iff_eq.mpr c84
              clear c84
              replace H := Option.bind_eq_some_iff.mp H; obtain ⟨t615, A850, H⟩ := H; try dsimp only at H
              have A85 := Aside0.mk A850
              clear A850
              obtain rfl := Option.some.inj H
              obtain ⟨Ao86, co86, eo86⟩ := Kd.N_slice HO_9.out
              subst eo86
              have hcz87 := blk_all2 BK585.out
              go_wp2_with (first | ((with_reducible refine gate_builtin (b := .append) (xs := #[.const (.slice none 0 0), .tmp 102]) rfl ?_); (try (refine gate_guard (by rfl) ?_; dsimp only)); at_builtin; refine Kd.R_append_rows (Kd.int .u8) (w0 := w) w.heap.size rfl (.const (.slice none 0 0)) (.tmp 102) 37 5 (.int .u8 0) 1 rfl Tryd.underlying37 info5 rfl (by decide) (by omega) (.slice none 0 0) ([] : List Int) l1_0 _ _ _ (fun _ => True) (fun _ => False) rfl rfl ?aO ?aR (fun _ _ h => h) (fun _ h => h.elim) ?aF ?aB ?aS ?aL ?_; (case aR => repeat (first | exact (Kd.C_below HR1_0.out HB.out) | (with_reducible refine Kd.C_alloc ?_ _) | (with_reducible refine Kd.C_drewN ?_ _) | (with_reducible refine Kd.C_drew ?_))); (case aB => exact b_now); (case aF => exact (fun _ _ => trivial)); (case aO => exact ((Kd.R_nil _ _ _ _ (fun _ => True)))); (case aS => exact (below_size b_now)); (case aL => have := LMc75.out; omega); intro v608 w88 ho hb hg hat; rw [← Ny607.out] at ho; have HO609 := Aside0.mk (ho); replace HO_9 := Aside0.mk (Kd.N_afterv (Kd.N_apart_nil (by (with_reducible repeat (first | apply Kd.N_alloc | apply Kd.N_drewN | apply Kd.N_drew)); exact HO_9.out)) hg hat); replace BK585 := Aside0.mk (blk_grown (g := gb585) (o := .cells #[.slice A1_0 l1_0.length c1_0, .int .u32 a1_1] 40 (0, 0)) bk_now hg (by simp [Value.ownBlock])); replace HB := Aside0.mk (hb); clear ho hb hg hat; obtain ⟨Ao89, co89, eo89⟩ := Kd.R_slice HO609.out; subst eo89; have p80 : 0 ≤ ((ji77) : Int) := of_decide_eq_true (by first | (with_reducible assumption) | assumption); have q80 : ((ji77) : Int) < ((y607.length : Int) : Int) := of_decide_eq_true (by first | (with_reducible assumption) | assumption); obtain ⟨go80, co80, eo80, gb80, gl80, cl80, HG80⟩ := Kd.R_form HO609.out (by omega); (first | cases eo80 | (injection eo80 with ea_ en_ ec_; (first | subst ea_ | (injection ea_ with ea_; subst ea_)); subst ec_; clear en_)); have GB80 := Aside0.mk gb80; have GG80 := Aside0.mk HG80; clear gb80 gl80 HG80; obtain ⟨hx80_0, hf80_0⟩ := Kd.R_celln 0 HO609.out ((ji77) : Int) p80 q80; replace p80 := eq_true p80; replace q80 := eq_true q80; obtain ⟨hy90_, hz90_⟩ := Kd.R_celln 0 HO609.out ((ji77) : Int) (of_decide_eq_true (by first | (with_reducible assumption) | assumption)) (of_decide_eq_true (by first | (with_reducible assumption) | assumption)); have HP90 := Kd.R_putg HO609.out ((ji77) : Int) a3) | ((with_reducible refine gate_store (t := 5) (p := 113) rfl ?_); refine store_event (t := 5) (p := 113) (v := ?vo_w91) (w1 := (w88.setCell ⟨go80, ((ji77) : Int).toNat, none⟩ (.int .u8 a3))) ?hg ?ho ?hn ?hr ?_; (case ho => rfl); (case hg => rfl); (case hn => rfl); (case hr => first | (go_simp; done) | (go_simp; rfl)); intro w91 hw; have hg : w88.grownBy w91 (some go80) := (by rw [hw]; exact HP90.2); have hp_ : Kd.R (Kd.int .u8) 5 w91 w.heap.size (fun _ => True) (.slice (some ⟨go80, 0, none⟩) y607.length co89) y610 := (by rw [hw, Ny610.out]; exact HP90.1); clear HP90; replace HO_9 := Aside0.mk (Kd.N_afterv (v := (.slice (some ⟨go80, 0, none⟩) y607.length co89)) (v1 := (.slice (some ⟨go80, 0, none⟩) y607.length co89)) (ok := (fun k_ => k_ ≠ gb585)) (by (with_reducible repeat (first | apply Kd.N_alloc | apply Kd.N_drewN | apply Kd.N_drew)); exact HO_9.out) hg (.inl rfl)); replace BK585 := Aside0.mk (blk_grown (g := gb585) (o := .cells #[.slice A1_0 l1_0.length c1_0, .int .u32 a1_1] 40 (0, 0)) bk_now hg (Kd.R_ne HO609.out BK585.out (by decide))); replace HO609 := Aside0.mk (hp_); replace HB := Aside0.mk ((by rw [hw]; exact below_set (HB.out) GB80.out : Below w.heap.size w w91)); clear hg hw hp_; have hcz92 := blk_all2 BK585.out) | ((with_reducible refine gate_callee (f := 18) rfl ?_); refine sh_call (some 120) Tryd.func18 #[.slice Ao86 t588.length co86, .slice A1_0 l1_0.length c1_0, .int .u32 a1_1] ?_; (with_reducible refine (rule_Judge.calls k2 _ _ t588 _ _ l1_0 a1_1 t611 t612 _ ?side1 ?side2 ?side3 ?side4 A81.out).mono ?_); (case side1 => repeat (first | exact (Kd.N_reads' HO_9.out).2.2 | (with_reducible refine Kd.C_alloc ?_ _) | (with_reducible refine Kd.C_drewN ?_ _) | (with_reducible refine Kd.C_drew ?_))); (case side2 => exact (Kd.N_reads' HO_9.out).2.1); (case side3 => repeat (first | exact (Kd.C_below HR1_0.out HB.out) | (with_reducible refine Kd.C_alloc ?_ _) | (with_reducible refine Kd.C_drewN ?_ _) | (with_reducible refine Kd.C_drew ?_))); (case side4 => exact HC1_0.out); rintro e w93 ⟨rfl, hb⟩; refine ⟨_, rfl, ?_⟩; replace HO_9 := Aside0.mk (Kd.N_below (by (with_reducible repeat (first | apply Kd.N_alloc | apply Kd.N_drewN | apply Kd.N_drew)); exact HO_9.out) hb); replace HO609 := Aside0.mk (Kd.R_below (by (with_reducible repeat (first | apply Kd.R_alloc | apply Kd.R_drewN | apply Kd.R_drew)); exact HO609.out) hb); replace BK585 := sh_k BK585 hb; replace HB := sh_b (w := w) hb; (try clear hb); (try clear hb2); (try clear hk); (try clear hi); have hcz94 := blk_all2 BK585.out) | ((with_reducible refine gate_callee (f := 18) rfl ?_); refine goesL_ (some 128) rfl rfl Tryd.func18 (by kernel_rfl) rfl #[.slice Ao86 t588.length co86, .slice (some ⟨go80, 0, none⟩) y610.length co89, .int .u32 a1_1] rfl (by (try simp only [List.map_toArray, List.map_cons, List.map_nil]); first | done | (rw [show y610.length = y607.length from (Kd.R_reads' HO609.out).1.symm] <;> rfl) | rfl | (simp only [List.length_drop, List.length_take]; rfl)) ?_; (with_reducible refine (rule_Judge.calls k2 _ _ t588 _ _ y610 a1_1 t613 t614 _ ?side1 ?side2 ?side3 ?side4 A82.out).mono ?_); (case side1 => repeat (first | exact (Kd.N_reads' HO_9.out).2.2 | (with_reducible refine Kd.C_alloc ?_ _) | (with_reducible refine Kd.C_drewN ?_ _) | (with_reducible refine Kd.C_drew ?_))); (case side2 => exact (Kd.N_reads' HO_9.out).2.1); (case side3 => repeat (first | exact (Kd.R_reads' HO609.out).2.2 | (with_reducible refine Kd.C_alloc ?_ _) | (with_reducible refine Kd.C_drewN ?_ _) | (with_reducible refine Kd.C_drew ?_))); (case side4 => rw [show y610.length = y607.length from (Kd.R_reads' HO609.out).1.symm]; exact (Kd.R_reads' HO609.out).2.1); rintro e w95 ⟨rfl, hb⟩; refine ⟨_, rfl, ?_⟩; replace HO_9 := Aside0.mk (Kd.N_below (by (with_reducible repeat (first | apply Kd.N_alloc | apply Kd.N_drewN | apply Kd.N_drew)); exact HO_9.out) hb); replace HO609 := Aside0.mk (Kd.R_below (by (with_reducible repeat (first | apply Kd.R_alloc | apply Kd.R_drewN | apply Kd.R_drew)); exact HO609.out) hb); replace BK585 := sh_k BK585 hb; replace HB := sh_b (w := w) hb; (try clear hb); (try clear hb2); (try clear hk); (try clear hi)) | (go_at_call 11; (with_reducible refine (stockadelaw18_wakes.calls k2  t615 _ ?side1 (by first | rfl | exact HRT.out) A85.out).mono ?_); (case side1 => repeat (first | exact (Kd.C_below HRG0.out HB.out) | (with_reducible refine Kd.C_alloc ?_ _) | (with_reducible refine Kd.C_drewN ?_ _) | (with_reducible refine Kd.C_drew ?_))); rintro e w96 ⟨rfl, hb⟩; replace HO_9 := Aside0.mk (Kd.N_below (by (with_reducible repeat (first | apply Kd.N_alloc | apply Kd.N_drewN | apply Kd.N_drew)); exact HO_9.out) hb); replace HO609 := Aside0.mk (Kd.R_below (by (with_reducible repeat (first | apply Kd.R_alloc | apply Kd.R_drewN | apply Kd.R_drew)); exact HO609.out) hb); replace BK585 := sh_k BK585 hb; replace HB := sh_b (w := w) hb; (try clear hb); (try clear hb2); (try clear hk); (try clear hi)))
              go_ret
              exact ⟨by first | rfl | (simp [errW_none, errW_some] <;> rfl) | (simp only [← hji77]; first | rfl | (simp [errW_none, errW_some] <;> rfl)) | (simp [*, errW_none, errW_some] <;> rfl), b_now⟩
             ·rw [if_neg c84] at H
              have c84b0 : (t612 == t614) = false := beq_eq_false_iff_ne.mpr c84
              have c84b1 : (t612 != t614) = true := bne_iff_ne.mpr c84
              obtain rfl := Option.some.inj H
              exact absurd HRT.out (by simp)
            ·rw [if_neg c83] at H
             have c83b0 : (t611 == t613) = false := beq_eq_false_iff_ne.mpr c83
             have c83b1 : (t611 != t613) = true := bne_iff_ne.mpr c83
             obtain rfl := Option.some.inj H
             exact absurd HRT.out (by simp)
           ·rw [if_neg c79] at H
            exact absurd H (by simp)
          ·rw [if_neg c78] at H
           exact absurd H (by simp)
        ·rw [if_neg c75] at H
         exact absurd H (by simp)

-- NOT PRINTED: function 40 (rule_prefix)

end Go.Proofs.YtighficpbplkhaaDoor.P
