/- Made by this session's driver over the kit's printer: for each Go function a Lean function with the same answers, and a proof that the Go call comes to these answers; no conditions but the ones each theorem names. -/
import Derived.Test.YtighficpbplkhaaDoorPx0
import Derived.Test.YtighficpbplkhaaDoorPx1
import Derived.Test.YtighficpbplkhaaDoorPx21
namespace Go.Proofs.YtighficpbplkhaaDoor.P
open Go.RowKit Go.Proofs.YtighficpbplkhaaDoorW.PrintWords Go.Proofs.YtighficpbplkhaaDoorW.PrintLast Go.Proofs.YtighficpbplkhaaDoorW.PrintMore
attribute [local go_sem] max2_int min2_int max_two min_two max_three min_three max_four min_four   -- for this text's walks alone
set_option linter.unusedVariables false
set_option linter.unusedSimpArgs false

attribute [local go_sem high] eqA50
/-! ### stockadelaw18_Is: function 17 -/
mutual
def stockadelaw18_Is.l0 : Nat → List (S53) → List (S46) → Int → Option (Bool)
 | 0, _, _, _ => none
 | k + 1, x0, x1, x5 => if x5 < (x0.length : Int) then (if 0 ≤ x5 then (if x5 < (x1.length : Int) then (if ((rd_T53 x0 x5).f1) = ((rd_T46 x1 x5).f1) then (stockadelaw18_Is.j1 k x0 x1 x5 ((((rd_T53 x0 x5).f0).length : Int) != (((rd_T46 x1 x5).f0).length : Int))) else (stockadelaw18_Is.j1 k x0 x1 x5 true)) else (none)) else (none)) else (some true)
def stockadelaw18_Is.j1 : Nat → List (S53) → List (S46) → Int → Bool → Option (Bool)
 | 0, _, _, _, _ => none
 | k + 1, x0, x1, x5, x43 => if x43 = true then (some false) else (stockadelaw18_Is.l1 k x0 x1 x5 0)
def stockadelaw18_Is.l1 : Nat → List (S53) → List (S46) → Int → Int → Option (Bool)
 | 0, _, _, _, _ => none
 | k + 1, x0, x1, x5, x6 => if 0 ≤ x5 then (if x5 < (x0.length : Int) then (if x6 < (((rd_T53 x0 x5).f0).length : Int) then (if 0 ≤ x6 then (if x5 < (x1.length : Int) then (if x6 < (((rd_T46 x1 x5).f0).length : Int) then ((stockadelaw18_Test.f ((rd_T55 ((rd_T46 x1 x5).f0) x6).f0) ((rd_T55 ((rd_T46 x1 x5).f0) x6).f1) ((rd_T55 ((rd_T46 x1 x5).f0) x6).f2) ((rd_T55 ((rd_T46 x1 x5).f0) x6).f3) ((rd_T55 ((rd_T46 x1 x5).f0) x6).f4) ((rd_T55 ((rd_T46 x1 x5).f0) x6).f5) ((rd_T55 ((rd_T46 x1 x5).f0) x6).f6)).bind fun bt347 => (if (!(((rd_T50 ((rd_T53 x0 x5).f0) x6).f0) == bt347.1) || (!(((rd_T50 ((rd_T53 x0 x5).f0) x6).f1) == bt347.2.1) || (!(((rd_T50 ((rd_T53 x0 x5).f0) x6).f2) == bt347.2.2.1) || (!(((rd_T50 ((rd_T53 x0 x5).f0) x6).f3) == bt347.2.2.2.1) || (!(((rd_T50 ((rd_T53 x0 x5).f0) x6).f4) == bt347.2.2.2.2.1) || (!(((rd_T50 ((rd_T53 x0 x5).f0) x6).f5) == bt347.2.2.2.2.2.1) || (!(((rd_T50 ((rd_T53 x0 x5).f0) x6).f6) == bt347.2.2.2.2.2.2)))))))) = true then (some false) else (stockadelaw18_Is.l1 k x0 x1 x5 (wrap64 (x6 + 1))))) else (none)) else (none)) else (none)) else (stockadelaw18_Is.l0 k x0 x1 (wrap64 (x5 + 1)))) else (none)) else (none)
end
def stockadelaw18_Is.f (k : Nat) (l0 : List (S53)) (l1 : List (S46)) : Option (Bool) := if (l0.length : Int) = (l1.length : Int) then (stockadelaw18_Is.l0 k l0 l1 0) else (some false)
theorem stockadelaw18_Is.mono_l : ∀ k, (∀ y0 y1 y2, LeO (stockadelaw18_Is.l0 k y0 y1 y2) (stockadelaw18_Is.l0 (k + 1) y0 y1 y2)) ∧ (∀ y0 y1 y2 y3, LeO (stockadelaw18_Is.j1 k y0 y1 y2 y3) (stockadelaw18_Is.j1 (k + 1) y0 y1 y2 y3)) ∧ (∀ y0 y1 y2 y3, LeO (stockadelaw18_Is.l1 k y0 y1 y2 y3) (stockadelaw18_Is.l1 (k + 1) y0 y1 y2 y3))
 | 0 => ⟨fun _ _ _ r h => by simp [stockadelaw18_Is.l0] at h, fun _ _ _ _ r h => by simp [stockadelaw18_Is.j1] at h, fun _ _ _ _ r h => by simp [stockadelaw18_Is.l1] at h⟩
 | k + 1 => by
  obtain ⟨ih0, ih1, ih2⟩ := stockadelaw18_Is.mono_l k
  refine ⟨?_, ?_, ?_⟩
  ·intro y0 y1 y2
   unfold stockadelaw18_Is.l0
   repeat' first
   | (with_reducible exact ih0 _ _ _)
   | (with_reducible exact ih1 _ _ _ _)
   | (with_reducible exact ih2 _ _ _ _)
   | (with_reducible exact LeO.refl _)
   | (with_reducible exact LeO.none _)
   | (with_reducible refine LeO.ite ?_ ?_)
   | (with_reducible refine LeO.bind ?_ (fun _ => ?_))
   | exact ih0 _ _ _
   | exact ih1 _ _ _ _
   | exact ih2 _ _ _ _
   | exact LeO.none _
   | refine LeO.ite ?_ ?_
   | refine LeO.bind ?_ (fun _ => ?_)
  ·intro y0 y1 y2 y3
   unfold stockadelaw18_Is.j1
   repeat' first
   | (with_reducible exact ih0 _ _ _)
   | (with_reducible exact ih1 _ _ _ _)
   | (with_reducible exact ih2 _ _ _ _)
   | (with_reducible exact LeO.refl _)
   | (with_reducible exact LeO.none _)
   | (with_reducible refine LeO.ite ?_ ?_)
   | (with_reducible refine LeO.bind ?_ (fun _ => ?_))
   | exact ih0 _ _ _
   | exact ih1 _ _ _ _
   | exact ih2 _ _ _ _
   | exact LeO.none _
   | refine LeO.ite ?_ ?_
   | refine LeO.bind ?_ (fun _ => ?_)
  ·intro y0 y1 y2 y3
   unfold stockadelaw18_Is.l1
   repeat' first
   | (with_reducible exact ih0 _ _ _)
   | (with_reducible exact ih1 _ _ _ _)
   | (with_reducible exact ih2 _ _ _ _)
   | (with_reducible exact LeO.refl _)
   | (with_reducible exact LeO.none _)
   | (with_reducible refine LeO.ite ?_ ?_)
   | (with_reducible refine LeO.bind ?_ (fun _ => ?_))
   | exact ih0 _ _ _
   | exact ih1 _ _ _ _
   | exact ih2 _ _ _ _
   | exact LeO.none _
   | refine LeO.ite ?_ ?_
   | refine LeO.bind ?_ (fun _ => ?_)
theorem stockadelaw18_Is.mono : ∀ a0 a1 k, LeO (stockadelaw18_Is.f k a0 a1) (stockadelaw18_Is.f (k + 1) a0 a1) := by
 intro a0 a1 k
 obtain ⟨ih0, ih1, ih2⟩ := stockadelaw18_Is.mono_l k
 unfold stockadelaw18_Is.f
 repeat' first
   | (with_reducible exact ih0 _ _ _)
   | (with_reducible exact ih1 _ _ _ _)
   | (with_reducible exact ih2 _ _ _ _)
   | (with_reducible exact LeO.refl _)
   | (with_reducible exact LeO.none _)
   | (with_reducible refine LeO.ite ?_ ?_)
   | (with_reducible refine LeO.bind ?_ (fun _ => ?_))
   | exact ih0 _ _ _
   | exact ih1 _ _ _ _
   | exact ih2 _ _ _ _
   | exact LeO.none _
   | refine LeO.ite ?_ ?_
   | refine LeO.bind ?_ (fun _ => ?_)
def stockadelaw18_Is.T6 : Bool × List (List Nat × List Nat) := (true, [([], []), ([], []), ([0, 1], [0, 1]), ([2], [2]), ([3], [3]), ([], []), ([], []), ([5, 6], [5, 6]), ([7], [7]), ([8], [8]), ([4, 9], [4, 9]), ([10], [10]), ([11], [11]), ([11], [11]), ([12, 13, 11], [11, 12, 13]), ([14, 11], [11, 14]), ([15, 11], [11, 15]), ([16, 11], [11, 16]), ([11], [11]), ([11], [11]), ([18, 19, 11], [11, 18, 19]), ([20, 11], [11, 20]), ([21, 11], [11, 21]), ([22, 11], [11, 22]), ([17, 23, 11], [11, 17, 23]), ([11, 24], [11, 24])])
def stockadelaw18_Is.B6 : List Nat := [0, 0, 3, 7, 15, 0, 0, 96, 224, 480, 1023, 2047, 4095, 4095, 16383, 32767, 65535, 131071, 4095, 4095, 790527, 1839103, 3936255, 8130559, 16777215, 33554431]
theorem stockadelaw18_Is.tab6 : rtab .any (opsOf Tryd.f17 6) = stockadelaw18_Is.T6 := by kernel_rfl
theorem stockadelaw18_Is.bits6 : waitsOk stockadelaw18_Is.T6.2 stockadelaw18_Is.B6 = true := by kernel_rfl
def stockadelaw18_Is.T11 : Bool × List (List Nat × List Nat) := (true, [([], []), ([], []), ([0, 1], [0, 1]), ([2], [2]), ([3], [3]), ([], []), ([4, 5], [4, 5]), ([6], [6]), ([], []), ([], []), ([8, 9], [8, 9]), ([10], [10]), ([11], [11]), ([], []), ([12, 13], [12, 13]), ([14], [14]), ([15], [15]), ([7, 16], [7, 16])])
def stockadelaw18_Is.B11 : List Nat := [0, 0, 3, 7, 15, 0, 63, 127, 0, 0, 768, 1792, 3840, 0, 16128, 32512, 65280, 131071]
theorem stockadelaw18_Is.tab11 : rtab .any (opsOf Tryd.f17 11) = stockadelaw18_Is.T11 := by kernel_rfl
theorem stockadelaw18_Is.bits11 : waitsOk stockadelaw18_Is.T11.2 stockadelaw18_Is.B11 = true := by kernel_rfl
set_option maxHeartbeats 8000000 in
set_option maxRecDepth 100000 in
theorem stockadelaw18_Is.calls (k : Nat) (A0 : Option Addr) (c0 : Nat) (l0 : List (S53)) (A1 : Option Addr) (c1 : Nat) (l1 : List (S46)) (r : Bool) (w : World) (hr0 : Kd.C k53 w A0 l0.length l0) (hc0 : l0.length ≤ c0) (hr1 : Kd.C k46 w A1 l1.length l1) (hc1 : l1.length ≤ c1) (h : stockadelaw18_Is.f k l0 l1 = some r) :
  Calls Tryd.prog 17 #[.slice A0 l0.length c0, .slice A1 l1.length c1] w fun e w' => e = .returned (.bool r) ∧ Below w.heap.size w w' := by
 have hu50 := Tryd.underlying50
 have hu55 := Tryd.underlying55
 have HR0 := Aside0.mk hr0
 have HC0 := Aside0.mk hc0
 clear hr0 hc0
 have HR1 := Aside0.mk hr1
 have HC1 := Aside0.mk hc1
 clear hr1 hc1
 have HB := Aside0.mk (Below.refl w.heap.size w)
 have H : (if (l0.length : Int) = (l1.length : Int) then (stockadelaw18_Is.l0 k l0 l1 0) else (some false)) = some r := h
 clear h
 by_cases c3 : (l0.length : Int) = (l1.length : Int)
 ·rw [if_pos c3] at H
  have c3b0 : ((l0.length : Int) == (l1.length : Int)) = true := beq_iff_eq.mpr c3
  have c3b1 : ((l0.length : Int) != (l1.length : Int)) = false := bne_eq_false_iff_eq.mpr c3
  have c3b2 : (l0.length == l1.length) = true := by first | simpa using c3 | (simp at c3 ⊢; omega)
  clear c3
  have H' := Aside0.mk H
  clear H
  go_enter Tryd.func17, Tryd.ntmps17
  go_wp2
  go_loopg [5] k (fun kq v5 w' => ∃ (x5_1 : Int), v5 = .int .i64 x5_1 ∧ Aside0 (stockadelaw18_Is.l0 kq l0 l1 x5_1 = some r) ∧ Aside0 (kq ≤ k) ∧ Aside0 (Below w.heap.size w w'))
  case atStart => exact ⟨(0), eq_now, H', ⟨Nat.le_refl _⟩, ⟨b_now⟩⟩
  case round =>
   clear H'
   clear c3b0 c3b1 c3b2
   obtain ⟨x5_1, rfl, HA, HK1, HB⟩ := hrel
   cases gk with
   | zero => exact absurd HA.out (by simp [stockadelaw18_Is.l0])
   | succ k1 =>
    have H := HA.out
    clear HA
    simp only [stockadelaw18_Is.l0] at H
    by_cases c4 : x5_1 < (l0.length : Int)
    ·rw [if_pos c4] at H
     have c4b0 : decide (x5_1 < (l0.length : Int)) = true := decide_eq_true c4
     clear c4
     have HC5 := Aside0.mk H
     clear H
     go_upto_region 6 with (fail)
     go_cut [43] (fun v43 wc => ∃ (kq : Nat) (x43_4 : Bool), v43 = .bool x43_4 ∧ Aside0 (stockadelaw18_Is.j1 kq l0 l1 x5_1 x43_4 = some r) ∧ Aside0 (kq ≤ k1) ∧ Aside0 (Below w.heap.size w wc))
     case first =>
      have H := HC5.out
      clear HC5
      by_cases c6 : 0 ≤ x5_1
      ·rw [if_pos c6] at H
       have c6b0 : decide (0 ≤ x5_1) = true := decide_eq_true c6
       clear c6
       (first | rw [c6b0] | (simp only [i64_w, i32_w]; rw [c6b0]) | skip)
       by_cases c7 : x5_1 < (l1.length : Int)
       ·rw [if_pos c7] at H
        have c7b0 : decide (x5_1 < (l1.length : Int)) = true := decide_eq_true c7
        clear c7
        by_cases c8 : ((rd_T53 l0 x5_1).f1) = ((rd_T46 l1 x5_1).f1)
        ·rw [if_pos c8] at H
         have c8b0 : (((rd_T53 l0 x5_1).f1) == ((rd_T46 l1 x5_1).f1)) = true := beq_iff_eq.mpr c8
         have c8b1 : (((rd_T53 l0 x5_1).f1) != ((rd_T46 l1 x5_1).f1)) = false := bne_eq_false_iff_eq.mpr c8
         clear c8
         have H' := Aside0.mk H
         clear H
         try go_wp2
         have n0_ := Aside0.mk (below_drew1 HB.out)
         clear HB
         have HB := n0_
         clear n0_
         have p338 : 0 ≤ (x5_1 : Int) := of_decide_eq_true (by first | (with_reducible assumption) | assumption)
         have q338 : x5_1 < (l0.length : Int) := of_decide_eq_true (by first | (with_reducible assumption) | assumption)
         obtain ⟨ad338, A338_0, c338_0, e338, hx338_0, hx338_1, hl338_0, hi338_0⟩ := at_T53 HR0.out x5_1 p338 q338
         have hw338_1 := hx338_1
         have hw338_0 := hx338_0
         cases e338
         replace hx338_0 := (HB.out.cell (World.block_lt_of_cell? w _ hx338_0)).trans hx338_0
         replace hx338_1 := (HB.out.cell (World.block_lt_of_cell? w _ hx338_1)).trans hx338_1
         have HR338_0 := Aside0.mk hi338_0
         have HC338_0 := Aside0.mk hl338_0
         clear hi338_0 hl338_0
         replace p338 := eq_true p338
         replace q338 := eq_true q338
         have p339 : 0 ≤ (x5_1 : Int) := of_decide_eq_true (by first | (with_reducible assumption) | assumption)
         have q339 : x5_1 < (l1.length : Int) := of_decide_eq_true (by first | (with_reducible assumption) | assumption)
         obtain ⟨ad339, A339_0, c339_0, e339, hx339_0, hx339_1, hl339_0, hi339_0⟩ := at_T46 HR1.out x5_1 p339 q339
         have hw339_1 := hx339_1
         have hw339_0 := hx339_0
         cases e339
         replace hx339_0 := (HB.out.cell (World.block_lt_of_cell? w _ hx339_0)).trans hx339_0
         replace hx339_1 := (HB.out.cell (World.block_lt_of_cell? w _ hx339_1)).trans hx339_1
         have HR339_0 := Aside0.mk hi339_0
         have HC339_0 := Aside0.mk hl339_0
         clear hi339_0 hl339_0
         replace p339 := eq_true p339
         replace q339 := eq_true q339
         have p340 : 0 ≤ (x5_1 : Int) := of_decide_eq_true (by first | (with_reducible assumption) | assumption)
         have q340 : x5_1 < (l0.length : Int) := of_decide_eq_true (by first | (with_reducible assumption) | assumption)
         obtain ⟨ad340, A340_0, c340_0, e340, hx340_0, hx340_1, hl340_0, hi340_0⟩ := at_T53 HR0.out x5_1 p340 q340
         have hw340_1 := hx340_1
         have hw340_0 := hx340_0
         obtain rfl : ad338 = ad340 := (by injection e340)
         replace hx340_0 := (HB.out.cell (World.block_lt_of_cell? w _ hx340_0)).trans hx340_0
         replace hx340_1 := (HB.out.cell (World.block_lt_of_cell? w _ hx340_1)).trans hx340_1
         have HR340_0 := Aside0.mk hi340_0
         have HC340_0 := Aside0.mk hl340_0
         clear hi340_0 hl340_0
         replace p340 := eq_true p340
         replace q340 := eq_true q340
         have ea_ := Option.some.inj (hx338_0.symm.trans hx340_0)
         injection ea_ with ea_ en_ ec_
         subst ea_
         subst ec_
         clear en_
         have p341 : 0 ≤ (x5_1 : Int) := of_decide_eq_true (by first | (with_reducible assumption) | assumption)
         have q341 : x5_1 < (l1.length : Int) := of_decide_eq_true (by first | (with_reducible assumption) | assumption)
         obtain ⟨ad341, A341_0, c341_0, e341, hx341_0, hx341_1, hl341_0, hi341_0⟩ := at_T46 HR1.out x5_1 p341 q341
         have hw341_1 := hx341_1
         have hw341_0 := hx341_0
         obtain rfl : ad339 = ad341 := (by injection e341)
         replace hx341_0 := (HB.out.cell (World.block_lt_of_cell? w _ hx341_0)).trans hx341_0
         replace hx341_1 := (HB.out.cell (World.block_lt_of_cell? w _ hx341_1)).trans hx341_1
         have HR341_0 := Aside0.mk hi341_0
         have HC341_0 := Aside0.mk hl341_0
         clear hi341_0 hl341_0
         replace p341 := eq_true p341
         replace q341 := eq_true q341
         have ea_ := Option.some.inj (hx339_0.symm.trans hx341_0)
         injection ea_ with ea_ en_ ec_
         subst ea_
         subst ec_
         clear en_
         refine start_ (n := 26) (S := fun w' => w'.cell? (ad338.add ((x5_1).toNat * 2)) = some (.slice A338_0 ((rd_T53 l0 x5_1).f0).length c338_0) ∧ w'.cell? ⟨(ad338.add ((x5_1).toNat * 2)).block, (ad338.add ((x5_1).toNat * 2)).off + 1, none⟩ = some (.int .u32 ((rd_T53 l0 x5_1).f1)) ∧ w'.cell? (ad339.add ((x5_1).toNat * 2)) = some (.slice A339_0 ((rd_T46 l1 x5_1).f0).length c339_0) ∧ w'.cell? ⟨(ad339.add ((x5_1).toNat * 2)).block, (ad339.add ((x5_1).toNat * 2)).off + 1, none⟩ = some (.int .u32 ((rd_T46 l1 x5_1).f1)) ∧ w'.cell? (ad338.add ((x5_1).toNat * 2)) = some (.slice A338_0 ((rd_T53 l0 x5_1).f0).length c338_0) ∧ w'.cell? ⟨(ad338.add ((x5_1).toNat * 2)).block, (ad338.add ((x5_1).toNat * 2)).off + 1, none⟩ = some (.int .u32 ((rd_T53 l0 x5_1).f1)) ∧ w'.cell? (ad339.add ((x5_1).toNat * 2)) = some (.slice A339_0 ((rd_T46 l1 x5_1).f0).length c339_0) ∧ w'.cell? ⟨(ad339.add ((x5_1).toNat * 2)).block, (ad339.add ((x5_1).toNat * 2)).off + 1, none⟩ = some (.int .u32 ((rd_T46 l1 x5_1).f1))) (ds := []) (fl 0 26) (by kernel_rfl) rfl rfl ⟨((HB.out.cell (World.block_lt_of_cell? w _ hw338_0)).trans hw338_0), ((HB.out.cell (World.block_lt_of_cell? w _ hw338_1)).trans hw338_1), ((HB.out.cell (World.block_lt_of_cell? w _ hw339_0)).trans hw339_0), ((HB.out.cell (World.block_lt_of_cell? w _ hw339_1)).trans hw339_1), ((HB.out.cell (World.block_lt_of_cell? w _ hw340_0)).trans hw340_0), ((HB.out.cell (World.block_lt_of_cell? w _ hw340_1)).trans hw340_1), ((HB.out.cell (World.block_lt_of_cell? w _ hw341_0)).trans hw341_0), ((HB.out.cell (World.block_lt_of_cell? w _ hw341_1)).trans hw341_1)⟩ (fun hHeld => ?_); refine with_tabW stockadelaw18_Is.tab6 stockadelaw18_Is.bits6 (fun HT_ HW_ => ?_)
         generalize wr.drew = w9 at HB HR338_0 HR339_0 HR340_0 HR341_0 hx338_0 hx338_1 hx339_0 hx339_1 hx340_0 hx340_1 hx341_0 hx341_1 hHeld ⊢
         refine pure_ (i := 0) (N := some 18) (v := ?_) (a' := ?_) (fl 1 25) rfl rfl (any_of HT_.out (by kernel_rfl)) (fun _ _ _ h => h) (Or.inl ⟨by rfl, ?_⟩) ?_ ?_
         rotate_left; exact ga_; rotate_left; exact gb_
         refine pure_ (i := 1) (N := some 19) (v := ?_) (a' := ?_) (fl 2 24) rfl rfl (any_of HT_.out (by kernel_rfl)) (fun _ _ _ h => h) (Or.inl ⟨by rfl, ?_⟩) ?_ ?_
         rotate_left; exact ga_; rotate_left; exact gb_
         refine pure_ (i := 2) (N := some 20) (v := ?_) (a' := ?_) (fl 3 23) rfl rfl (any_of HT_.out (by kernel_rfl)) (fun _ _ _ h => h) (Or.inl ⟨by rfl, ?_⟩) ?_ ?_
         rotate_left; exact ga_; rotate_left; exact gb_
         refine pure_ (i := 3) (N := some 21) (v := ?_) (a' := ?_) (fl 4 22) rfl rfl (any_of HT_.out (by kernel_rfl)) (fun _ _ _ h => h) (Or.inl ⟨by rfl, ?_⟩) ?_ ?_
         rotate_left; exact ga_; rotate_left; exact gb_
         refine pure_ (i := 5) (N := some 23) (v := ?_) (a' := ?_) (fm 26 47) rfl rfl (any_of HT_.out (by kernel_rfl)) (fun _ _ _ h => h) (Or.inl ⟨by rfl, ?_⟩) ?_ ?_
         rotate_left; exact ga_; rotate_left; exact gb_
         refine pure_ (i := 6) (N := some 24) (v := ?_) (a' := ?_) (fm 26 111) rfl rfl (any_of HT_.out (by kernel_rfl)) (fun _ _ _ h => h) (Or.inl ⟨by rfl, ?_⟩) ?_ ?_
         rotate_left; exact ga_; rotate_left; exact gb_
         refine pure_ (i := 7) (N := some 25) (v := ?_) (a' := ?_) (fm 26 239) rfl rfl (any_of HT_.out (by kernel_rfl)) (fun _ _ _ h => h) (Or.inl ⟨by rfl, ?_⟩) ?_ ?_
         rotate_left; exact ga_; rotate_left; exact gb_
         refine pure_ (i := 8) (N := some 26) (v := ?_) (a' := ?_) (fm 26 495) rfl rfl (any_of HT_.out (by kernel_rfl)) (fun _ _ _ h => h) (Or.inl ⟨by rfl, ?_⟩) ?_ ?_
         rotate_left; exact ga_; rotate_left; exact gb_
         refine take_ (i := 4) (N := some 22) (v := ?_) (a' := ?_) (fl 9 17) rfl rfl (take_ofW HT_.out HW_.out (by kernel_rfl)) (fun _ _ _ h => h) (Or.inl ⟨by rfl, ?_⟩) hHeld ?_ ?_
         rotate_left; exact ga8_; rotate_left; exact gb_
         refine take_ (i := 9) (N := some 27) (v := ?_) (a' := ?_) (fl 10 16) rfl rfl (take_ofW HT_.out HW_.out (by kernel_rfl)) (fun _ _ _ h => h) (Or.inl ⟨by rfl, ?_⟩) hHeld ?_ ?_
         rotate_left; exact ga8_; rotate_left; exact gb_
         refine pure_ (i := 10) (N := some 28) (v := ?_) (a' := ?_) (fl 11 15) rfl rfl (any_of HT_.out (by kernel_rfl)) (fun _ _ _ h => h) (Or.inl ⟨by rfl, ?_⟩) ?_ ?_
         rotate_left; exact ga_; rotate_left; exact gb_
         refine pure_ (i := 11) (N := some 29) (v := ?_) (a' := ?_) (fl 12 14) rfl rfl (any_of HT_.out (by kernel_rfl)) (fun _ _ _ h => h) (Or.inl ⟨by rfl, ?_⟩) ?_ ?_
         rotate_left; exact ga_; rotate_left; exact gb_
         refine pure_ (i := 12) (N := some 30) (v := ?_) (a' := ?_) (fl 13 13) rfl rfl (any_of HT_.out (by kernel_rfl)) (fun _ _ _ h => h) (Or.inl ⟨by rfl, ?_⟩) ?_ ?_
         rotate_left; exact ga_; rotate_left; exact gb_
         refine pure_ (i := 13) (N := some 31) (v := ?_) (a' := ?_) (fl 14 12) rfl rfl (any_of HT_.out (by kernel_rfl)) (fun _ _ _ h => h) (Or.inl ⟨by rfl, ?_⟩) ?_ ?_
         rotate_left; exact ga_; rotate_left; exact gb_
         refine pure_ (i := 14) (N := some 32) (v := ?_) (a' := ?_) (fl 15 11) rfl rfl (any_of HT_.out (by kernel_rfl)) (fun _ _ _ h => h) (Or.inl ⟨by rfl, ?_⟩) ?_ ?_
         rotate_left; exact ga_; rotate_left; exact gb_
         refine pure_ (i := 15) (N := some 33) (v := ?_) (a' := ?_) (fl 16 10) rfl rfl (any_of HT_.out (by kernel_rfl)) (fun _ _ _ h => h) (Or.inl ⟨by rfl, ?_⟩) ?_ ?_
         rotate_left; exact ga_; rotate_left; exact gb_
         refine pure_ (i := 18) (N := some 36) (v := ?_) (a' := ?_) (fm 26 327679) rfl rfl (any_of HT_.out (by kernel_rfl)) (fun _ _ _ h => h) (Or.inl ⟨by rfl, ?_⟩) ?_ ?_
         rotate_left; exact ga_; rotate_left; exact gb_
         refine pure_ (i := 19) (N := some 37) (v := ?_) (a' := ?_) (fm 26 851967) rfl rfl (any_of HT_.out (by kernel_rfl)) (fun _ _ _ h => h) (Or.inl ⟨by rfl, ?_⟩) ?_ ?_
         rotate_left; exact ga_; rotate_left; exact gb_
         refine pure_ (i := 20) (N := some 38) (v := ?_) (a' := ?_) (fm 26 1900543) rfl rfl (any_of HT_.out (by kernel_rfl)) (fun _ _ _ h => h) (Or.inl ⟨by rfl, ?_⟩) ?_ ?_
         rotate_left; exact ga_; rotate_left; exact gb_
         refine pure_ (i := 21) (N := some 39) (v := ?_) (a' := ?_) (fm 26 3997695) rfl rfl (any_of HT_.out (by kernel_rfl)) (fun _ _ _ h => h) (Or.inl ⟨by rfl, ?_⟩) ?_ ?_
         rotate_left; exact ga_; rotate_left; exact gb_
         refine take_ (i := 16) (N := some 34) (v := ?_) (a' := ?_) (fm 26 4063231) rfl rfl (take_ofW HT_.out HW_.out (by kernel_rfl)) (fun _ _ _ h => h) (Or.inl ⟨by rfl, ?_⟩) hHeld ?_ ?_
         rotate_left; exact ga8_; rotate_left; exact gb_
         refine pure_ (i := 17) (N := some 35) (v := ?_) (a' := ?_) (fl 22 4) rfl rfl (any_of HT_.out (by kernel_rfl)) (fun _ _ _ h => h) (Or.inl ⟨by rfl, ?_⟩) ?_ ?_
         rotate_left; exact ga_; rotate_left; exact gb_
         refine take_ (i := 22) (N := some 40) (v := ?_) (a' := ?_) (fl 23 3) rfl rfl (take_ofW HT_.out HW_.out (by kernel_rfl)) (fun _ _ _ h => h) (Or.inl ⟨by rfl, ?_⟩) hHeld ?_ ?_
         rotate_left; exact ga8_; rotate_left; exact gb_
         refine pure_ (i := 23) (N := some 41) (v := ?_) (a' := ?_) (fl 24 2) rfl rfl (any_of HT_.out (by kernel_rfl)) (fun _ _ _ h => h) (Or.inl ⟨by rfl, ?_⟩) ?_ ?_
         rotate_left; exact ga_; rotate_left; exact gb_
         refine pure_ (i := 24) (N := some 42) (v := ?_) (a' := ?_) (fl 25 1) rfl rfl (any_of HT_.out (by kernel_rfl)) (fun _ _ _ h => h) (Or.inl ⟨by rfl, ?_⟩) ?_ ?_
         rotate_left; exact ga_; rotate_left; exact gb_
         refine pure_ (i := 25) (N := some 43) (v := ?_) (a' := ?_) (fl 26 0) rfl rfl (any_of HT_.out (by kernel_rfl)) (fun _ _ _ h => h) (Or.inl ⟨by rfl, ?_⟩) ?_ ?_
         rotate_left; exact ga_; rotate_left; exact gb_
         refine done_ (done_of HT_.out (by kernel_rfl)) ?_
         try go_wp2
         go_meet
         case rel => exact ⟨_, (((((rd_T53 l0 x5_1).f0).length : Int) != (((rd_T46 l1 x5_1).f0).length : Int))), eq_now, H', ⟨by have := HK1.out; first | omega | exact Nat.le_refl _⟩, ⟨b_now⟩⟩
        ·rw [if_neg c8] at H
         have c8b0 : (((rd_T53 l0 x5_1).f1) == ((rd_T46 l1 x5_1).f1)) = false := beq_eq_false_iff_ne.mpr c8
         have c8b1 : (((rd_T53 l0 x5_1).f1) != ((rd_T46 l1 x5_1).f1)) = true := bne_iff_ne.mpr c8
         have H' := Aside0.mk H
         clear H
         try go_wp2
         have n0_ := Aside0.mk (below_drew1 HB.out)
         clear HB
         have HB := n0_
         clear n0_
         have p338 : 0 ≤ (x5_1 : Int) := of_decide_eq_true (by first | (with_reducible assumption) | assumption)
         have q338 : x5_1 < (l0.length : Int) := of_decide_eq_true (by first | (with_reducible assumption) | assumption)
         obtain ⟨ad338, A338_0, c338_0, e338, hx338_0, hx338_1, hl338_0, hi338_0⟩ := at_T53 HR0.out x5_1 p338 q338
         have hw338_1 := hx338_1
         have hw338_0 := hx338_0
         cases e338
         replace hx338_0 := (HB.out.cell (World.block_lt_of_cell? w _ hx338_0)).trans hx338_0
         replace hx338_1 := (HB.out.cell (World.block_lt_of_cell? w _ hx338_1)).trans hx338_1
         have HR338_0 := Aside0.mk hi338_0
         have HC338_0 := Aside0.mk hl338_0
         clear hi338_0 hl338_0
         replace p338 := eq_true p338
         replace q338 := eq_true q338
         have p339 : 0 ≤ (x5_1 : Int) := of_decide_eq_true (by first | (with_reducible assumption) | assumption)
         have q339 : x5_1 < (l1.length : Int) := of_decide_eq_true (by first | (with_reducible assumption) | assumption)
         obtain ⟨ad339, A339_0, c339_0, e339, hx339_0, hx339_1, hl339_0, hi339_0⟩ := at_T46 HR1.out x5_1 p339 q339
         have hw339_1 := hx339_1
         have hw339_0 := hx339_0
         cases e339
         replace hx339_0 := (HB.out.cell (World.block_lt_of_cell? w _ hx339_0)).trans hx339_0
         replace hx339_1 := (HB.out.cell (World.block_lt_of_cell? w _ hx339_1)).trans hx339_1
         have HR339_0 := Aside0.mk hi339_0
         have HC339_0 := Aside0.mk hl339_0
         clear hi339_0 hl339_0
         replace p339 := eq_true p339
         replace q339 := eq_true q339
         refine start_ (n := 26) (S := fun w' => w'.cell? (ad338.add ((x5_1).toNat * 2)) = some (.slice A338_0 ((rd_T53 l0 x5_1).f0).length c338_0) ∧ w'.cell? ⟨(ad338.add ((x5_1).toNat * 2)).block, (ad338.add ((x5_1).toNat * 2)).off + 1, none⟩ = some (.int .u32 ((rd_T53 l0 x5_1).f1)) ∧ w'.cell? (ad339.add ((x5_1).toNat * 2)) = some (.slice A339_0 ((rd_T46 l1 x5_1).f0).length c339_0) ∧ w'.cell? ⟨(ad339.add ((x5_1).toNat * 2)).block, (ad339.add ((x5_1).toNat * 2)).off + 1, none⟩ = some (.int .u32 ((rd_T46 l1 x5_1).f1))) (ds := []) (fl 0 26) (by kernel_rfl) rfl rfl ⟨((HB.out.cell (World.block_lt_of_cell? w _ hw338_0)).trans hw338_0), ((HB.out.cell (World.block_lt_of_cell? w _ hw338_1)).trans hw338_1), ((HB.out.cell (World.block_lt_of_cell? w _ hw339_0)).trans hw339_0), ((HB.out.cell (World.block_lt_of_cell? w _ hw339_1)).trans hw339_1)⟩ (fun hHeld => ?_); refine with_tabW stockadelaw18_Is.tab6 stockadelaw18_Is.bits6 (fun HT_ HW_ => ?_)
         generalize wr.drew = w10 at HB HR338_0 HR339_0 hx338_0 hx338_1 hx339_0 hx339_1 hHeld ⊢
         refine pure_ (i := 0) (N := some 18) (v := ?_) (a' := ?_) (fl 1 25) rfl rfl (any_of HT_.out (by kernel_rfl)) (fun _ _ _ h => h) (Or.inl ⟨by rfl, ?_⟩) ?_ ?_
         rotate_left; exact ga_; rotate_left; exact gb_
         refine pure_ (i := 1) (N := some 19) (v := ?_) (a' := ?_) (fl 2 24) rfl rfl (any_of HT_.out (by kernel_rfl)) (fun _ _ _ h => h) (Or.inl ⟨by rfl, ?_⟩) ?_ ?_
         rotate_left; exact ga_; rotate_left; exact gb_
         refine pure_ (i := 2) (N := some 20) (v := ?_) (a' := ?_) (fl 3 23) rfl rfl (any_of HT_.out (by kernel_rfl)) (fun _ _ _ h => h) (Or.inl ⟨by rfl, ?_⟩) ?_ ?_
         rotate_left; exact ga_; rotate_left; exact gb_
         refine pure_ (i := 3) (N := some 21) (v := ?_) (a' := ?_) (fl 4 22) rfl rfl (any_of HT_.out (by kernel_rfl)) (fun _ _ _ h => h) (Or.inl ⟨by rfl, ?_⟩) ?_ ?_
         rotate_left; exact ga_; rotate_left; exact gb_
         refine pure_ (i := 5) (N := some 23) (v := ?_) (a' := ?_) (fm 26 47) rfl rfl (any_of HT_.out (by kernel_rfl)) (fun _ _ _ h => h) (Or.inl ⟨by rfl, ?_⟩) ?_ ?_
         rotate_left; exact ga_; rotate_left; exact gb_
         refine pure_ (i := 6) (N := some 24) (v := ?_) (a' := ?_) (fm 26 111) rfl rfl (any_of HT_.out (by kernel_rfl)) (fun _ _ _ h => h) (Or.inl ⟨by rfl, ?_⟩) ?_ ?_
         rotate_left; exact ga_; rotate_left; exact gb_
         refine pure_ (i := 7) (N := some 25) (v := ?_) (a' := ?_) (fm 26 239) rfl rfl (any_of HT_.out (by kernel_rfl)) (fun _ _ _ h => h) (Or.inl ⟨by rfl, ?_⟩) ?_ ?_
         rotate_left; exact ga_; rotate_left; exact gb_
         refine pure_ (i := 8) (N := some 26) (v := ?_) (a' := ?_) (fm 26 495) rfl rfl (any_of HT_.out (by kernel_rfl)) (fun _ _ _ h => h) (Or.inl ⟨by rfl, ?_⟩) ?_ ?_
         rotate_left; exact ga_; rotate_left; exact gb_
         refine take_ (i := 4) (N := some 22) (v := ?_) (a' := ?_) (fl 9 17) rfl rfl (take_ofW HT_.out HW_.out (by kernel_rfl)) (fun _ _ _ h => h) (Or.inl ⟨by rfl, ?_⟩) hHeld ?_ ?_
         rotate_left; exact ga4_; rotate_left; exact gb_
         refine take_ (i := 9) (N := some 27) (v := ?_) (a' := ?_) (fl 10 16) rfl rfl (take_ofW HT_.out HW_.out (by kernel_rfl)) (fun _ _ _ h => h) (Or.inl ⟨by rfl, ?_⟩) hHeld ?_ ?_
         rotate_left; exact ga4_; rotate_left; exact gb_
         refine pure_ (i := 10) (N := some 28) (v := ?_) (a' := ?_) (fl 11 15) rfl rfl (any_of HT_.out (by kernel_rfl)) (fun _ _ _ h => h) (Or.inl ⟨by rfl, ?_⟩) ?_ ?_
         rotate_left; exact ga_; rotate_left; exact gb_
         refine pure_ (i := 11) (N := some 29) (v := ?_) (a' := ?_) (fl 12 14) rfl rfl (any_of HT_.out (by kernel_rfl)) (fun _ _ _ h => h) (Or.inl ⟨by rfl, ?_⟩) ?_ ?_
         rotate_left; exact ga_; rotate_left; exact gb_
         refine pure_ (i := 12) (N := some 30) (v := undef) (a' := ?_) (fl 13 13) rfl rfl (any_of HT_.out (by kernel_rfl)) (fun _ _ _ h => h) (Or.inr ⟨by rfl, rfl⟩) ?_ ?_
         rotate_left
         ·simp only [Act.put, List.setIfInBounds_toArray, List.set_cons_zero, List.set_cons_succ, i64_w, i32_w]
          rfl
         refine pure_ (i := 13) (N := some 31) (v := undef) (a' := ?_) (fl 14 12) rfl rfl (any_of HT_.out (by kernel_rfl)) (fun _ _ _ h => h) (Or.inr ⟨by rfl, rfl⟩) ?_ ?_
         rotate_left
         ·simp only [Act.put, List.setIfInBounds_toArray, List.set_cons_zero, List.set_cons_succ, i64_w, i32_w]
          rfl
         refine pure_ (i := 14) (N := some 32) (v := undef) (a' := ?_) (fl 15 11) rfl rfl (any_of HT_.out (by kernel_rfl)) (fun _ _ _ h => h) (Or.inr ⟨by rfl, rfl⟩) ?_ ?_
         rotate_left
         ·simp only [Act.put, List.setIfInBounds_toArray, List.set_cons_zero, List.set_cons_succ, i64_w, i32_w]
          rfl
         refine pure_ (i := 15) (N := some 33) (v := undef) (a' := ?_) (fl 16 10) rfl rfl (any_of HT_.out (by kernel_rfl)) (fun _ _ _ h => h) (Or.inr ⟨by rfl, rfl⟩) ?_ ?_
         rotate_left
         ·simp only [Act.put, List.setIfInBounds_toArray, List.set_cons_zero, List.set_cons_succ, i64_w, i32_w]
          rfl
         refine pure_ (i := 16) (N := some 34) (v := undef) (a' := ?_) (fl 17 9) rfl rfl (any_of HT_.out (by kernel_rfl)) (fun _ _ _ h => h) (Or.inr ⟨by rfl, rfl⟩) ?_ ?_
         rotate_left
         ·simp only [Act.put, List.setIfInBounds_toArray, List.set_cons_zero, List.set_cons_succ, i64_w, i32_w]
          rfl
         refine pure_ (i := 17) (N := some 35) (v := undef) (a' := ?_) (fl 18 8) rfl rfl (any_of HT_.out (by kernel_rfl)) (fun _ _ _ h => h) (Or.inr ⟨by rfl, rfl⟩) ?_ ?_
         rotate_left
         ·simp only [Act.put, List.setIfInBounds_toArray, List.set_cons_zero, List.set_cons_succ, i64_w, i32_w]
          rfl
         refine pure_ (i := 18) (N := some 36) (v := undef) (a' := ?_) (fl 19 7) rfl rfl (any_of HT_.out (by kernel_rfl)) (fun _ _ _ h => h) (Or.inr ⟨by rfl, rfl⟩) ?_ ?_
         rotate_left
         ·simp only [Act.put, List.setIfInBounds_toArray, List.set_cons_zero, List.set_cons_succ, i64_w, i32_w]
          rfl
         refine pure_ (i := 19) (N := some 37) (v := undef) (a' := ?_) (fl 20 6) rfl rfl (any_of HT_.out (by kernel_rfl)) (fun _ _ _ h => h) (Or.inr ⟨by rfl, rfl⟩) ?_ ?_
         rotate_left
         ·simp only [Act.put, List.setIfInBounds_toArray, List.set_cons_zero, List.set_cons_succ, i64_w, i32_w]
          rfl
         refine pure_ (i := 20) (N := some 38) (v := undef) (a' := ?_) (fl 21 5) rfl rfl (any_of HT_.out (by kernel_rfl)) (fun _ _ _ h => h) (Or.inr ⟨by rfl, rfl⟩) ?_ ?_
         rotate_left
         ·simp only [Act.put, List.setIfInBounds_toArray, List.set_cons_zero, List.set_cons_succ, i64_w, i32_w]
          rfl
         refine pure_ (i := 21) (N := some 39) (v := undef) (a' := ?_) (fl 22 4) rfl rfl (any_of HT_.out (by kernel_rfl)) (fun _ _ _ h => h) (Or.inr ⟨by rfl, rfl⟩) ?_ ?_
         rotate_left
         ·simp only [Act.put, List.setIfInBounds_toArray, List.set_cons_zero, List.set_cons_succ, i64_w, i32_w]
          rfl
         refine pure_ (i := 22) (N := some 40) (v := undef) (a' := ?_) (fl 23 3) rfl rfl (any_of HT_.out (by kernel_rfl)) (fun _ _ _ h => h) (Or.inr ⟨by rfl, rfl⟩) ?_ ?_
         rotate_left
         ·simp only [Act.put, List.setIfInBounds_toArray, List.set_cons_zero, List.set_cons_succ, i64_w, i32_w]
          rfl
         refine pure_ (i := 23) (N := some 41) (v := undef) (a' := ?_) (fl 24 2) rfl rfl (any_of HT_.out (by kernel_rfl)) (fun _ _ _ h => h) (Or.inr ⟨by rfl, rfl⟩) ?_ ?_
         rotate_left
         ·simp only [Act.put, List.setIfInBounds_toArray, List.set_cons_zero, List.set_cons_succ, i64_w, i32_w]
          rfl
         refine pure_ (i := 24) (N := some 42) (v := undef) (a' := ?_) (fl 25 1) rfl rfl (any_of HT_.out (by kernel_rfl)) (fun _ _ _ h => h) (Or.inr ⟨by rfl, rfl⟩) ?_ ?_
         rotate_left
         ·simp only [Act.put, List.setIfInBounds_toArray, List.set_cons_zero, List.set_cons_succ, i64_w, i32_w]
          rfl
         refine pure_ (i := 25) (N := some 43) (v := ?_) (a' := ?_) (fl 26 0) rfl rfl (any_of HT_.out (by kernel_rfl)) (fun _ _ _ h => h) (Or.inl ⟨by rfl, ?_⟩) ?_ ?_
         rotate_left; exact ga_; rotate_left; exact gb_
         refine done_ (done_of HT_.out (by kernel_rfl)) ?_
         try go_wp2
         go_meet
         case rel => exact ⟨_, (true), eq_now, H', ⟨by have := HK1.out; first | omega | exact Nat.le_refl _⟩, ⟨b_now⟩⟩
       ·rw [if_neg c7] at H
        exact absurd H (by simp)
      ·rw [if_neg c6] at H
       exact absurd H (by simp)
     case rest =>
      clear HC5
      clear c4b0
      obtain ⟨kq, x43_4, rfl, HA, HJ4, HB⟩ := hcut
      cases kq with
      | zero => exact absurd HA.out (by simp [stockadelaw18_Is.j1])
      | succ kj4 =>
       have H := HA.out
       clear HA
       simp only [stockadelaw18_Is.j1] at H
       by_cases c11 : x43_4 = true
       ·subst c11
        replace H := sh_t H
        obtain rfl := Option.some.inj H
        go_wp2
        go_ret
        exact ⟨ret_now, b_now⟩
       ·replace c11 := Bool.eq_false_iff.mpr c11
        subst c11
        replace H := sh_f H
        have H' := Aside0.mk H
        clear H
        go_wp2
        go_loopg [6] kj4 (fun kq v6 w' => ∃ (x6_3 : Int), v6 = .int .i64 x6_3 ∧ Aside0 (stockadelaw18_Is.l1 kq l0 l1 x5_1 x6_3 = some r) ∧ Aside0 (kq ≤ kj4) ∧ Aside0 (Below w.heap.size w w'))
        case atStart => exact ⟨(0), eq_now, H', ⟨Nat.le_refl _⟩, ⟨b_now⟩⟩
        case round =>
         clear H'
         obtain ⟨x6_3, rfl, HA, HK3, HB⟩ := hrel
         cases gk with
         | zero => exact absurd HA.out (by simp [stockadelaw18_Is.l1])
         | succ k3 =>
          have H := HA.out
          clear HA
          simp only [stockadelaw18_Is.l1] at H
          by_cases c12 : 0 ≤ x5_1
          ·rw [if_pos c12] at H
           have c12b0 : decide (0 ≤ x5_1) = true := decide_eq_true c12
           clear c12
           by_cases c13 : x5_1 < (l0.length : Int)
           ·rw [if_pos c13] at H
            have c13b0 : decide (x5_1 < (l0.length : Int)) = true := decide_eq_true c13
            clear c13
            by_cases c14 : x6_3 < (((rd_T53 l0 x5_1).f0).length : Int)
            ·rw [if_pos c14] at H
             have c14b0 : decide (x6_3 < (((rd_T53 l0 x5_1).f0).length : Int)) = true := decide_eq_true c14
             clear c14
             by_cases c15 : 0 ≤ x6_3
             ·rw [if_pos c15] at H
              have c15b0 : decide (0 ≤ x6_3) = true := decide_eq_true c15
              clear c15
              by_cases c16 : x5_1 < (l1.length : Int)
              ·rw [if_pos c16] at H
               have c16b0 : decide (x5_1 < (l1.length : Int)) = true := decide_eq_true c16
               clear c16
               by_cases c17 : x6_3 < (((rd_T46 l1 x5_1).f0).length : Int)
               ·rw [if_pos c17] at H
                have c17b0 : decide (x6_3 < (((rd_T46 l1 x5_1).f0).length : Int)) = true := decide_eq_true c17
                clear c17
                replace H := Option.bind_eq_some_iff.mp H; obtain ⟨⟨t347, t348, t349, t350, t351, t352, t353⟩, A180, H⟩ := H; try dsimp only at H
                have A18 := Aside0.mk A180
                clear A180
                by_cases c19 : (!(((rd_T50 ((rd_T53 l0 x5_1).f0) x6_3).f0) == t347) || (!(((rd_T50 ((rd_T53 l0 x5_1).f0) x6_3).f1) == t348) || (!(((rd_T50 ((rd_T53 l0 x5_1).f0) x6_3).f2) == t349) || (!(((rd_T50 ((rd_T53 l0 x5_1).f0) x6_3).f3) == t350) || (!(((rd_T50 ((rd_T53 l0 x5_1).f0) x6_3).f4) == t351) || (!(((rd_T50 ((rd_T53 l0 x5_1).f0) x6_3).f5) == t352) || (!(((rd_T50 ((rd_T53 l0 x5_1).f0) x6_3).f6) == t353)))))))) = true
                ·rw [if_pos c19] at H
                 have c19b0 : (!(((rd_T50 ((rd_T53 l0 x5_1).f0) x6_3).f0) == t347) || (!(((rd_T50 ((rd_T53 l0 x5_1).f0) x6_3).f1) == t348) || (!(((rd_T50 ((rd_T53 l0 x5_1).f0) x6_3).f2) == t349) || (!(((rd_T50 ((rd_T53 l0 x5_1).f0) x6_3).f3) == t350) || (!(((rd_T50 ((rd_T53 l0 x5_1).f0) x6_3).f4) == t351) || (!(((rd_T50 ((rd_T53 l0 x5_1).f0) x6_3).f5) == t352) || (!(((rd_T50 ((rd_T53 l0 x5_1).f0) x6_3).f6) == t353)))))))) = true := c19
                 clear c19
                 obtain rfl := Option.some.inj H
                 have p342 : 0 ≤ (x5_1 : Int) := of_decide_eq_true (by first | (with_reducible assumption) | assumption)
                 have q342 : x5_1 < (l0.length : Int) := of_decide_eq_true (by first | (with_reducible assumption) | assumption)
                 obtain ⟨ad342, A342_0, c342_0, e342, hx342_0, hx342_1, hl342_0, hi342_0⟩ := at_T53 HR0.out x5_1 p342 q342
                 cases e342
                 replace hx342_0 := (HB.out.cell (World.block_lt_of_cell? w _ hx342_0)).trans hx342_0
                 replace hx342_1 := (HB.out.cell (World.block_lt_of_cell? w _ hx342_1)).trans hx342_1
                 have HR342_0 := Aside0.mk hi342_0
                 have HC342_0 := Aside0.mk hl342_0
                 clear hi342_0 hl342_0
                 replace p342 := eq_true p342
                 replace q342 := eq_true q342
                 try go_wp2
                 have n0_ := Aside0.mk (below_drew1 HB.out)
                 clear HB
                 have HB := n0_
                 clear n0_
                 have p343 : 0 ≤ (x5_1 : Int) := of_decide_eq_true (by first | (with_reducible assumption) | assumption)
                 have q343 : x5_1 < (l0.length : Int) := of_decide_eq_true (by first | (with_reducible assumption) | assumption)
                 obtain ⟨ad343, A343_0, c343_0, e343, hx343_0, hx343_1, hl343_0, hi343_0⟩ := at_T53 HR0.out x5_1 p343 q343
                 have hw343_1 := hx343_1
                 have hw343_0 := hx343_0
                 obtain rfl : ad342 = ad343 := (by injection e343)
                 replace hx343_0 := (HB.out.cell (World.block_lt_of_cell? w _ hx343_0)).trans hx343_0
                 replace hx343_1 := (HB.out.cell (World.block_lt_of_cell? w _ hx343_1)).trans hx343_1
                 have HR343_0 := Aside0.mk hi343_0
                 have HC343_0 := Aside0.mk hl343_0
                 clear hi343_0 hl343_0
                 replace p343 := eq_true p343
                 replace q343 := eq_true q343
                 have p344 : 0 ≤ (x6_3 : Int) := of_decide_eq_true (by first | (with_reducible assumption) | assumption)
                 have q344 : x6_3 < (((rd_T53 l0 x5_1).f0).length : Int) := of_decide_eq_true (by first | (with_reducible assumption) | assumption)
                 obtain ⟨ad344, e344, hx344_0, hx344_1, hx344_2, hx344_3, hx344_4, hx344_5, hx344_6⟩ := at_T50 HR343_0.out x6_3 p344 q344
                 have hw344_6 := hx344_6
                 have hw344_5 := hx344_5
                 have hw344_4 := hx344_4
                 have hw344_3 := hx344_3
                 have hw344_2 := hx344_2
                 have hw344_1 := hx344_1
                 have hw344_0 := hx344_0
                 cases e344
                 replace hx344_0 := (HB.out.cell (World.block_lt_of_cell? w _ hx344_0)).trans hx344_0
                 replace hx344_1 := (HB.out.cell (World.block_lt_of_cell? w _ hx344_1)).trans hx344_1
                 replace hx344_2 := (HB.out.cell (World.block_lt_of_cell? w _ hx344_2)).trans hx344_2
                 replace hx344_3 := (HB.out.cell (World.block_lt_of_cell? w _ hx344_3)).trans hx344_3
                 replace hx344_4 := (HB.out.cell (World.block_lt_of_cell? w _ hx344_4)).trans hx344_4
                 replace hx344_5 := (HB.out.cell (World.block_lt_of_cell? w _ hx344_5)).trans hx344_5
                 replace hx344_6 := (HB.out.cell (World.block_lt_of_cell? w _ hx344_6)).trans hx344_6
                 replace p344 := eq_true p344
                 replace q344 := eq_true q344
                 have p345 : 0 ≤ (x5_1 : Int) := of_decide_eq_true (by first | (with_reducible assumption) | assumption)
                 have q345 : x5_1 < (l1.length : Int) := of_decide_eq_true (by first | (with_reducible assumption) | assumption)
                 obtain ⟨ad345, A345_0, c345_0, e345, hx345_0, hx345_1, hl345_0, hi345_0⟩ := at_T46 HR1.out x5_1 p345 q345
                 have hw345_1 := hx345_1
                 have hw345_0 := hx345_0
                 cases e345
                 replace hx345_0 := (HB.out.cell (World.block_lt_of_cell? w _ hx345_0)).trans hx345_0
                 replace hx345_1 := (HB.out.cell (World.block_lt_of_cell? w _ hx345_1)).trans hx345_1
                 have HR345_0 := Aside0.mk hi345_0
                 have HC345_0 := Aside0.mk hl345_0
                 clear hi345_0 hl345_0
                 replace p345 := eq_true p345
                 replace q345 := eq_true q345
                 have p346 : 0 ≤ (x6_3 : Int) := of_decide_eq_true (by first | (with_reducible assumption) | assumption)
                 have q346 : x6_3 < (((rd_T46 l1 x5_1).f0).length : Int) := of_decide_eq_true (by first | (with_reducible assumption) | assumption)
                 obtain ⟨ad346, e346, hx346_0, hx346_1, hx346_2, hx346_3, hx346_4, hx346_5, hx346_6⟩ := at_T55 HR345_0.out x6_3 p346 q346
                 have hw346_6 := hx346_6
                 have hw346_5 := hx346_5
                 have hw346_4 := hx346_4
                 have hw346_3 := hx346_3
                 have hw346_2 := hx346_2
                 have hw346_1 := hx346_1
                 have hw346_0 := hx346_0
                 cases e346
                 replace hx346_0 := (HB.out.cell (World.block_lt_of_cell? w _ hx346_0)).trans hx346_0
                 replace hx346_1 := (HB.out.cell (World.block_lt_of_cell? w _ hx346_1)).trans hx346_1
                 replace hx346_2 := (HB.out.cell (World.block_lt_of_cell? w _ hx346_2)).trans hx346_2
                 replace hx346_3 := (HB.out.cell (World.block_lt_of_cell? w _ hx346_3)).trans hx346_3
                 replace hx346_4 := (HB.out.cell (World.block_lt_of_cell? w _ hx346_4)).trans hx346_4
                 replace hx346_5 := (HB.out.cell (World.block_lt_of_cell? w _ hx346_5)).trans hx346_5
                 replace hx346_6 := (HB.out.cell (World.block_lt_of_cell? w _ hx346_6)).trans hx346_6
                 replace p346 := eq_true p346
                 replace q346 := eq_true q346
                 refine start_ (n := 18) (S := fun w' => w'.cell? (ad342.add ((x5_1).toNat * 2)) = some (.slice (some ad344) ((rd_T53 l0 x5_1).f0).length c343_0) ∧ w'.cell? ⟨(ad342.add ((x5_1).toNat * 2)).block, (ad342.add ((x5_1).toNat * 2)).off + 1, none⟩ = some (.int .u32 ((rd_T53 l0 x5_1).f1)) ∧ w'.cell? (ad344.add ((x6_3).toNat * 7)) = some (.bool ((rd_T50 ((rd_T53 l0 x5_1).f0) x6_3).f0)) ∧ w'.cell? ⟨(ad344.add ((x6_3).toNat * 7)).block, (ad344.add ((x6_3).toNat * 7)).off + 1, none⟩ = some (.int .i64 ((rd_T50 ((rd_T53 l0 x5_1).f0) x6_3).f1)) ∧ w'.cell? ⟨(ad344.add ((x6_3).toNat * 7)).block, (ad344.add ((x6_3).toNat * 7)).off + 2, none⟩ = some (.int .i64 ((rd_T50 ((rd_T53 l0 x5_1).f0) x6_3).f2)) ∧ w'.cell? ⟨(ad344.add ((x6_3).toNat * 7)).block, (ad344.add ((x6_3).toNat * 7)).off + 3, none⟩ = some (.int .i64 ((rd_T50 ((rd_T53 l0 x5_1).f0) x6_3).f3)) ∧ w'.cell? ⟨(ad344.add ((x6_3).toNat * 7)).block, (ad344.add ((x6_3).toNat * 7)).off + 4, none⟩ = some (.int .u64 ((rd_T50 ((rd_T53 l0 x5_1).f0) x6_3).f4)) ∧ w'.cell? ⟨(ad344.add ((x6_3).toNat * 7)).block, (ad344.add ((x6_3).toNat * 7)).off + 5, none⟩ = some (.int .u64 ((rd_T50 ((rd_T53 l0 x5_1).f0) x6_3).f5)) ∧ w'.cell? ⟨(ad344.add ((x6_3).toNat * 7)).block, (ad344.add ((x6_3).toNat * 7)).off + 6, none⟩ = some (.int .u64 ((rd_T50 ((rd_T53 l0 x5_1).f0) x6_3).f6)) ∧ w'.cell? (ad345.add ((x5_1).toNat * 2)) = some (.slice (some ad346) ((rd_T46 l1 x5_1).f0).length c345_0) ∧ w'.cell? ⟨(ad345.add ((x5_1).toNat * 2)).block, (ad345.add ((x5_1).toNat * 2)).off + 1, none⟩ = some (.int .u32 ((rd_T46 l1 x5_1).f1)) ∧ w'.cell? (ad346.add ((x6_3).toNat * 7)) = some (.bool ((rd_T55 ((rd_T46 l1 x5_1).f0) x6_3).f0)) ∧ w'.cell? ⟨(ad346.add ((x6_3).toNat * 7)).block, (ad346.add ((x6_3).toNat * 7)).off + 1, none⟩ = some (.int .i64 ((rd_T55 ((rd_T46 l1 x5_1).f0) x6_3).f1)) ∧ w'.cell? ⟨(ad346.add ((x6_3).toNat * 7)).block, (ad346.add ((x6_3).toNat * 7)).off + 2, none⟩ = some (.int .i64 ((rd_T55 ((rd_T46 l1 x5_1).f0) x6_3).f2)) ∧ w'.cell? ⟨(ad346.add ((x6_3).toNat * 7)).block, (ad346.add ((x6_3).toNat * 7)).off + 3, none⟩ = some (.int .i64 ((rd_T55 ((rd_T46 l1 x5_1).f0) x6_3).f3)) ∧ w'.cell? ⟨(ad346.add ((x6_3).toNat * 7)).block, (ad346.add ((x6_3).toNat * 7)).off + 4, none⟩ = some (.int .u64 ((rd_T55 ((rd_T46 l1 x5_1).f0) x6_3).f4)) ∧ w'.cell? ⟨(ad346.add ((x6_3).toNat * 7)).block, (ad346.add ((x6_3).toNat * 7)).off + 5, none⟩ = some (.int .u64 ((rd_T55 ((rd_T46 l1 x5_1).f0) x6_3).f5)) ∧ w'.cell? ⟨(ad346.add ((x6_3).toNat * 7)).block, (ad346.add ((x6_3).toNat * 7)).off + 6, none⟩ = some (.int .u64 ((rd_T55 ((rd_T46 l1 x5_1).f0) x6_3).f6))) (ds := []) (fl 0 18) (by kernel_rfl) rfl rfl ⟨((HB.out.cell (World.block_lt_of_cell? w _ hw343_0)).trans hw343_0), ((HB.out.cell (World.block_lt_of_cell? w _ hw343_1)).trans hw343_1), ((HB.out.cell (World.block_lt_of_cell? w _ hw344_0)).trans hw344_0), ((HB.out.cell (World.block_lt_of_cell? w _ hw344_1)).trans hw344_1), ((HB.out.cell (World.block_lt_of_cell? w _ hw344_2)).trans hw344_2), ((HB.out.cell (World.block_lt_of_cell? w _ hw344_3)).trans hw344_3), ((HB.out.cell (World.block_lt_of_cell? w _ hw344_4)).trans hw344_4), ((HB.out.cell (World.block_lt_of_cell? w _ hw344_5)).trans hw344_5), ((HB.out.cell (World.block_lt_of_cell? w _ hw344_6)).trans hw344_6), ((HB.out.cell (World.block_lt_of_cell? w _ hw345_0)).trans hw345_0), ((HB.out.cell (World.block_lt_of_cell? w _ hw345_1)).trans hw345_1), ((HB.out.cell (World.block_lt_of_cell? w _ hw346_0)).trans hw346_0), ((HB.out.cell (World.block_lt_of_cell? w _ hw346_1)).trans hw346_1), ((HB.out.cell (World.block_lt_of_cell? w _ hw346_2)).trans hw346_2), ((HB.out.cell (World.block_lt_of_cell? w _ hw346_3)).trans hw346_3), ((HB.out.cell (World.block_lt_of_cell? w _ hw346_4)).trans hw346_4), ((HB.out.cell (World.block_lt_of_cell? w _ hw346_5)).trans hw346_5), ((HB.out.cell (World.block_lt_of_cell? w _ hw346_6)).trans hw346_6)⟩ (fun hHeld => ?_); refine with_tabW stockadelaw18_Is.tab11 stockadelaw18_Is.bits11 (fun HT_ HW_ => ?_)
                 generalize wr.drew = w20 at HB HR343_0 HR345_0 hx343_0 hx343_1 hx344_0 hx344_1 hx344_2 hx344_3 hx344_4 hx344_5 hx344_6 hx345_0 hx345_1 hx346_0 hx346_1 hx346_2 hx346_3 hx346_4 hx346_5 hx346_6 hHeld ⊢
                 refine pure_ (i := 0) (N := some 54) (v := ?_) (a' := ?_) (fl 1 17) rfl rfl (any_of HT_.out (by kernel_rfl)) (fun _ _ _ h => h) (Or.inl ⟨by rfl, ?_⟩) ?_ ?_
                 rotate_left; exact ga_; rotate_left; exact gb_
                 refine pure_ (i := 1) (N := some 55) (v := ?_) (a' := ?_) (fl 2 16) rfl rfl (any_of HT_.out (by kernel_rfl)) (fun _ _ _ h => h) (Or.inl ⟨by rfl, ?_⟩) ?_ ?_
                 rotate_left; exact ga_; rotate_left; exact gb_
                 refine pure_ (i := 2) (N := some 56) (v := ?_) (a' := ?_) (fl 3 15) rfl rfl (any_of HT_.out (by kernel_rfl)) (fun _ _ _ h => h) (Or.inl ⟨by rfl, ?_⟩) ?_ ?_
                 rotate_left; exact ga_; rotate_left; exact gb_
                 refine pure_ (i := 3) (N := some 57) (v := ?_) (a' := ?_) (fl 4 14) rfl rfl (any_of HT_.out (by kernel_rfl)) (fun _ _ _ h => h) (Or.inl ⟨by rfl, ?_⟩) ?_ ?_
                 rotate_left; exact ga_; rotate_left; exact gb_
                 refine pure_ (i := 5) (N := some 59) (v := ?_) (a' := ?_) (fm 18 47) rfl rfl (any_of HT_.out (by kernel_rfl)) (fun _ _ _ h => h) (Or.inl ⟨by rfl, ?_⟩) ?_ ?_
                 rotate_left; exact ga_; rotate_left; exact gb_
                 refine pure_ (i := 8) (N := some 62) (v := ?_) (a' := ?_) (fm 18 303) rfl rfl (any_of HT_.out (by kernel_rfl)) (fun _ _ _ h => h) (Or.inl ⟨by rfl, ?_⟩) ?_ ?_
                 rotate_left; exact ga_; rotate_left; exact gb_
                 refine pure_ (i := 9) (N := some 63) (v := ?_) (a' := ?_) (fm 18 815) rfl rfl (any_of HT_.out (by kernel_rfl)) (fun _ _ _ h => h) (Or.inl ⟨by rfl, ?_⟩) ?_ ?_
                 rotate_left; exact ga_; rotate_left; exact gb_
                 refine pure_ (i := 10) (N := some 64) (v := ?_) (a' := ?_) (fm 18 1839) rfl rfl (any_of HT_.out (by kernel_rfl)) (fun _ _ _ h => h) (Or.inl ⟨by rfl, ?_⟩) ?_ ?_
                 rotate_left; exact ga_; rotate_left; exact gb_
                 refine pure_ (i := 11) (N := some 65) (v := ?_) (a' := ?_) (fm 18 3887) rfl rfl (any_of HT_.out (by kernel_rfl)) (fun _ _ _ h => h) (Or.inl ⟨by rfl, ?_⟩) ?_ ?_
                 rotate_left; exact ga_; rotate_left; exact gb_
                 refine pure_ (i := 13) (N := some 67) (v := ?_) (a' := ?_) (fm 18 12079) rfl rfl (any_of HT_.out (by kernel_rfl)) (fun _ _ _ h => h) (Or.inl ⟨by rfl, ?_⟩) ?_ ?_
                 rotate_left; exact ga_; rotate_left; exact gb_
                 refine take_ (i := 4) (N := some 58) (v := ?_) (a' := ?_) (fm 18 12095) rfl rfl (take_ofW HT_.out HW_.out (by kernel_rfl)) (fun _ _ _ h => h) (Or.inl ⟨by rfl, ?_⟩) hHeld ?_ ?_
                 rotate_left; exact ga18_; rotate_left; exact gb_
                 refine pure_ (i := 6) (N := some 60) (v := ?_) (a' := ?_) (fm 18 12159) rfl rfl (any_of HT_.out (by kernel_rfl)) (fun _ _ _ h => h) (Or.inl ⟨by rfl, ?_⟩) ?_ ?_
                 rotate_left; exact ga_; rotate_left; exact gb_
                 refine take_ (i := 7) (N := some 61) (v := ?_) (a' := ?_) (fm 18 12287) rfl rfl (take_ofW HT_.out HW_.out (by kernel_rfl)) (fun _ _ _ h => h) (Or.inl ⟨by rfl, ?_⟩) hHeld ?_ ?_
                 rotate_left; exact ga18_; rotate_left; exact gb_
                 refine take_ (i := 12) (N := some 66) (v := ?_) (a' := ?_) (fl 14 4) rfl rfl (take_ofW HT_.out HW_.out (by kernel_rfl)) (fun _ _ _ h => h) (Or.inl ⟨by rfl, ?_⟩) hHeld ?_ ?_
                 rotate_left; exact ga18_; rotate_left; exact gb_
                 refine pure_ (i := 14) (N := some 68) (v := ?_) (a' := ?_) (fl 15 3) rfl rfl (any_of HT_.out (by kernel_rfl)) (fun _ _ _ h => h) (Or.inl ⟨by rfl, ?_⟩) ?_ ?_
                 rotate_left; exact ga_; rotate_left; exact gb_
                 refine take_ (i := 15) (N := some 69) (v := ?_) (a' := ?_) (fl 16 2) rfl rfl (take_ofW HT_.out HW_.out (by kernel_rfl)) (fun _ _ _ h => h) (Or.inl ⟨by rfl, ?_⟩) hHeld ?_ ?_
                 rotate_left; exact ga18_; rotate_left; exact gb_
                 refine one_ (i := 16) (N := some 70) (fl 17 1) rfl rfl (one_of HT_.out (by kernel_rfl)) (by decide) (fun K hK => ?_)
                 refine goes_ Tryd.func27 (by kernel_rfl) rfl #[.agg #[.bool ((rd_T55 ((rd_T46 l1 x5_1).f0) x6_3).f0), .int .i64 ((rd_T55 ((rd_T46 l1 x5_1).f0) x6_3).f1), .int .i64 ((rd_T55 ((rd_T46 l1 x5_1).f0) x6_3).f2), .int .i64 ((rd_T55 ((rd_T46 l1 x5_1).f0) x6_3).f3), .int .u64 ((rd_T55 ((rd_T46 l1 x5_1).f0) x6_3).f4), .int .u64 ((rd_T55 ((rd_T46 l1 x5_1).f0) x6_3).f5), .int .u64 ((rd_T55 ((rd_T46 l1 x5_1).f0) x6_3).f6)]] (by rfl) rfl rfl (by (try simp only [List.map_toArray, List.map_cons, List.map_nil]); first | done | rfl | (simp only [List.length_drop, List.length_take]; rfl)) ?_
                 with_reducible refine (stockadelaw18_Test.calls ((rd_T55 ((rd_T46 l1 x5_1).f0) x6_3).f0) ((rd_T55 ((rd_T46 l1 x5_1).f0) x6_3).f1) ((rd_T55 ((rd_T46 l1 x5_1).f0) x6_3).f2) ((rd_T55 ((rd_T46 l1 x5_1).f0) x6_3).f3) ((rd_T55 ((rd_T46 l1 x5_1).f0) x6_3).f4) ((rd_T55 ((rd_T46 l1 x5_1).f0) x6_3).f5) ((rd_T55 ((rd_T46 l1 x5_1).f0) x6_3).f6) t347 t348 t349 t350 t351 t352 t353 _ A18.out).mono ?_
                 rintro e w21 ⟨rfl, hb⟩
                 refine ⟨_, rfl, ?_⟩
                 have n0_ := Aside0.mk (below_step b_now hb)
                 clear HB
                 have HB := n0_
                 clear n0_
                 (try clear hb)
                 (try clear hb2)
                 (try clear hk)
                 (try clear hi)
                 refine hK.out _ _ ⟨((HB.out.cell (World.block_lt_of_cell? w _ hw343_0)).trans hw343_0), ((HB.out.cell (World.block_lt_of_cell? w _ hw343_1)).trans hw343_1), ((HB.out.cell (World.block_lt_of_cell? w _ hw344_0)).trans hw344_0), ((HB.out.cell (World.block_lt_of_cell? w _ hw344_1)).trans hw344_1), ((HB.out.cell (World.block_lt_of_cell? w _ hw344_2)).trans hw344_2), ((HB.out.cell (World.block_lt_of_cell? w _ hw344_3)).trans hw344_3), ((HB.out.cell (World.block_lt_of_cell? w _ hw344_4)).trans hw344_4), ((HB.out.cell (World.block_lt_of_cell? w _ hw344_5)).trans hw344_5), ((HB.out.cell (World.block_lt_of_cell? w _ hw344_6)).trans hw344_6), ((HB.out.cell (World.block_lt_of_cell? w _ hw345_0)).trans hw345_0), ((HB.out.cell (World.block_lt_of_cell? w _ hw345_1)).trans hw345_1), ((HB.out.cell (World.block_lt_of_cell? w _ hw346_0)).trans hw346_0), ((HB.out.cell (World.block_lt_of_cell? w _ hw346_1)).trans hw346_1), ((HB.out.cell (World.block_lt_of_cell? w _ hw346_2)).trans hw346_2), ((HB.out.cell (World.block_lt_of_cell? w _ hw346_3)).trans hw346_3), ((HB.out.cell (World.block_lt_of_cell? w _ hw346_4)).trans hw346_4), ((HB.out.cell (World.block_lt_of_cell? w _ hw346_5)).trans hw346_5), ((HB.out.cell (World.block_lt_of_cell? w _ hw346_6)).trans hw346_6)⟩ (fun hHeld => ?_)
                 clear hK K
                 refine norm_ (a' := ?_) ?_ ?_
                 rotate_left
                 ·show Act.put _ (some 70) _ = _
                  simp only [Act.put, List.setIfInBounds_toArray, List.set_cons_zero, List.set_cons_succ, i64_w, i32_w]
                  rfl
                 refine pure_ (i := 17) (N := some 71) (v := ?_) (a' := ?_) (fl 18 0) rfl rfl (any_of HT_.out (by kernel_rfl)) (fun _ _ _ h => h) (Or.inl ⟨by rfl, ?_⟩) ?_ ?_
                 rotate_left; exact ga_; rotate_left; exact gb_
                 refine done_ (done_of HT_.out (by kernel_rfl)) ?_
                 try go_wp2
                 go_ret
                 exact ⟨ret_now, b_now⟩
                ·rw [if_neg c19] at H
                 have c19b0 : (!(((rd_T50 ((rd_T53 l0 x5_1).f0) x6_3).f0) == t347) || (!(((rd_T50 ((rd_T53 l0 x5_1).f0) x6_3).f1) == t348) || (!(((rd_T50 ((rd_T53 l0 x5_1).f0) x6_3).f2) == t349) || (!(((rd_T50 ((rd_T53 l0 x5_1).f0) x6_3).f3) == t350) || (!(((rd_T50 ((rd_T53 l0 x5_1).f0) x6_3).f4) == t351) || (!(((rd_T50 ((rd_T53 l0 x5_1).f0) x6_3).f5) == t352) || (!(((rd_T50 ((rd_T53 l0 x5_1).f0) x6_3).f6) == t353)))))))) = false := by simpa using c19
                 clear c19
                 have H' := Aside0.mk H
                 clear H
                 have p342 : 0 ≤ (x5_1 : Int) := of_decide_eq_true (by first | (with_reducible assumption) | assumption)
                 have q342 : x5_1 < (l0.length : Int) := of_decide_eq_true (by first | (with_reducible assumption) | assumption)
                 obtain ⟨ad342, A342_0, c342_0, e342, hx342_0, hx342_1, hl342_0, hi342_0⟩ := at_T53 HR0.out x5_1 p342 q342
                 cases e342
                 replace hx342_0 := (HB.out.cell (World.block_lt_of_cell? w _ hx342_0)).trans hx342_0
                 replace hx342_1 := (HB.out.cell (World.block_lt_of_cell? w _ hx342_1)).trans hx342_1
                 have HR342_0 := Aside0.mk hi342_0
                 have HC342_0 := Aside0.mk hl342_0
                 clear hi342_0 hl342_0
                 replace p342 := eq_true p342
                 replace q342 := eq_true q342
                 try go_wp2
                 have n0_ := Aside0.mk (below_drew1 HB.out)
                 clear HB
                 have HB := n0_
                 clear n0_
                 have p343 : 0 ≤ (x5_1 : Int) := of_decide_eq_true (by first | (with_reducible assumption) | assumption)
                 have q343 : x5_1 < (l0.length : Int) := of_decide_eq_true (by first | (with_reducible assumption) | assumption)
                 obtain ⟨ad343, A343_0, c343_0, e343, hx343_0, hx343_1, hl343_0, hi343_0⟩ := at_T53 HR0.out x5_1 p343 q343
                 have hw343_1 := hx343_1
                 have hw343_0 := hx343_0
                 obtain rfl : ad342 = ad343 := (by injection e343)
                 replace hx343_0 := (HB.out.cell (World.block_lt_of_cell? w _ hx343_0)).trans hx343_0
                 replace hx343_1 := (HB.out.cell (World.block_lt_of_cell? w _ hx343_1)).trans hx343_1
                 have HR343_0 := Aside0.mk hi343_0
                 have HC343_0 := Aside0.mk hl343_0
                 clear hi343_0 hl343_0
                 replace p343 := eq_true p343
                 replace q343 := eq_true q343
                 have p344 : 0 ≤ (x6_3 : Int) := of_decide_eq_true (by first | (with_reducible assumption) | assumption)
                 have q344 : x6_3 < (((rd_T53 l0 x5_1).f0).length : Int) := of_decide_eq_true (by first | (with_reducible assumption) | assumption)
                 obtain ⟨ad344, e344, hx344_0, hx344_1, hx344_2, hx344_3, hx344_4, hx344_5, hx344_6⟩ := at_T50 HR343_0.out x6_3 p344 q344
                 have hw344_6 := hx344_6
                 have hw344_5 := hx344_5
                 have hw344_4 := hx344_4
                 have hw344_3 := hx344_3
                 have hw344_2 := hx344_2
                 have hw344_1 := hx344_1
                 have hw344_0 := hx344_0
                 cases e344
                 replace hx344_0 := (HB.out.cell (World.block_lt_of_cell? w _ hx344_0)).trans hx344_0
                 replace hx344_1 := (HB.out.cell (World.block_lt_of_cell? w _ hx344_1)).trans hx344_1
                 replace hx344_2 := (HB.out.cell (World.block_lt_of_cell? w _ hx344_2)).trans hx344_2
                 replace hx344_3 := (HB.out.cell (World.block_lt_of_cell? w _ hx344_3)).trans hx344_3
                 replace hx344_4 := (HB.out.cell (World.block_lt_of_cell? w _ hx344_4)).trans hx344_4
                 replace hx344_5 := (HB.out.cell (World.block_lt_of_cell? w _ hx344_5)).trans hx344_5
                 replace hx344_6 := (HB.out.cell (World.block_lt_of_cell? w _ hx344_6)).trans hx344_6
                 replace p344 := eq_true p344
                 replace q344 := eq_true q344
                 have p345 : 0 ≤ (x5_1 : Int) := of_decide_eq_true (by first | (with_reducible assumption) | assumption)
                 have q345 : x5_1 < (l1.length : Int) := of_decide_eq_true (by first | (with_reducible assumption) | assumption)
                 obtain ⟨ad345, A345_0, c345_0, e345, hx345_0, hx345_1, hl345_0, hi345_0⟩ := at_T46 HR1.out x5_1 p345 q345
                 have hw345_1 := hx345_1
                 have hw345_0 := hx345_0
                 cases e345
                 replace hx345_0 := (HB.out.cell (World.block_lt_of_cell? w _ hx345_0)).trans hx345_0
                 replace hx345_1 := (HB.out.cell (World.block_lt_of_cell? w _ hx345_1)).trans hx345_1
                 have HR345_0 := Aside0.mk hi345_0
                 have HC345_0 := Aside0.mk hl345_0
                 clear hi345_0 hl345_0
                 replace p345 := eq_true p345
                 replace q345 := eq_true q345
                 have p346 : 0 ≤ (x6_3 : Int) := of_decide_eq_true (by first | (with_reducible assumption) | assumption)
                 have q346 : x6_3 < (((rd_T46 l1 x5_1).f0).length : Int) := of_decide_eq_true (by first | (with_reducible assumption) | assumption)
                 obtain ⟨ad346, e346, hx346_0, hx346_1, hx346_2, hx346_3, hx346_4, hx346_5, hx346_6⟩ := at_T55 HR345_0.out x6_3 p346 q346
                 have hw346_6 := hx346_6
                 have hw346_5 := hx346_5
                 have hw346_4 := hx346_4
                 have hw346_3 := hx346_3
                 have hw346_2 := hx346_2
                 have hw346_1 := hx346_1
                 have hw346_0 := hx346_0
                 cases e346
                 replace hx346_0 := (HB.out.cell (World.block_lt_of_cell? w _ hx346_0)).trans hx346_0
                 replace hx346_1 := (HB.out.cell (World.block_lt_of_cell? w _ hx346_1)).trans hx346_1
                 replace hx346_2 := (HB.out.cell (World.block_lt_of_cell? w _ hx346_2)).trans hx346_2
                 replace hx346_3 := (HB.out.cell (World.block_lt_of_cell? w _ hx346_3)).trans hx346_3
                 replace hx346_4 := (HB.out.cell (World.block_lt_of_cell? w _ hx346_4)).trans hx346_4
                 replace hx346_5 := (HB.out.cell (World.block_lt_of_cell? w _ hx346_5)).trans hx346_5
                 replace hx346_6 := (HB.out.cell (World.block_lt_of_cell? w _ hx346_6)).trans hx346_6
                 replace p346 := eq_true p346
                 replace q346 := eq_true q346
                 refine start_ (n := 18) (S := fun w' => w'.cell? (ad342.add ((x5_1).toNat * 2)) = some (.slice (some ad344) ((rd_T53 l0 x5_1).f0).length c343_0) ∧ w'.cell? ⟨(ad342.add ((x5_1).toNat * 2)).block, (ad342.add ((x5_1).toNat * 2)).off + 1, none⟩ = some (.int .u32 ((rd_T53 l0 x5_1).f1)) ∧ w'.cell? (ad344.add ((x6_3).toNat * 7)) = some (.bool ((rd_T50 ((rd_T53 l0 x5_1).f0) x6_3).f0)) ∧ w'.cell? ⟨(ad344.add ((x6_3).toNat * 7)).block, (ad344.add ((x6_3).toNat * 7)).off + 1, none⟩ = some (.int .i64 ((rd_T50 ((rd_T53 l0 x5_1).f0) x6_3).f1)) ∧ w'.cell? ⟨(ad344.add ((x6_3).toNat * 7)).block, (ad344.add ((x6_3).toNat * 7)).off + 2, none⟩ = some (.int .i64 ((rd_T50 ((rd_T53 l0 x5_1).f0) x6_3).f2)) ∧ w'.cell? ⟨(ad344.add ((x6_3).toNat * 7)).block, (ad344.add ((x6_3).toNat * 7)).off + 3, none⟩ = some (.int .i64 ((rd_T50 ((rd_T53 l0 x5_1).f0) x6_3).f3)) ∧ w'.cell? ⟨(ad344.add ((x6_3).toNat * 7)).block, (ad344.add ((x6_3).toNat * 7)).off + 4, none⟩ = some (.int .u64 ((rd_T50 ((rd_T53 l0 x5_1).f0) x6_3).f4)) ∧ w'.cell? ⟨(ad344.add ((x6_3).toNat * 7)).block, (ad344.add ((x6_3).toNat * 7)).off + 5, none⟩ = some (.int .u64 ((rd_T50 ((rd_T53 l0 x5_1).f0) x6_3).f5)) ∧ w'.cell? ⟨(ad344.add ((x6_3).toNat * 7)).block, (ad344.add ((x6_3).toNat * 7)).off + 6, none⟩ = some (.int .u64 ((rd_T50 ((rd_T53 l0 x5_1).f0) x6_3).f6)) ∧ w'.cell? (ad345.add ((x5_1).toNat * 2)) = some (.slice (some ad346) ((rd_T46 l1 x5_1).f0).length c345_0) ∧ w'.cell? ⟨(ad345.add ((x5_1).toNat * 2)).block, (ad345.add ((x5_1).toNat * 2)).off + 1, none⟩ = some (.int .u32 ((rd_T46 l1 x5_1).f1)) ∧ w'.cell? (ad346.add ((x6_3).toNat * 7)) = some (.bool ((rd_T55 ((rd_T46 l1 x5_1).f0) x6_3).f0)) ∧ w'.cell? ⟨(ad346.add ((x6_3).toNat * 7)).block, (ad346.add ((x6_3).toNat * 7)).off + 1, none⟩ = some (.int .i64 ((rd_T55 ((rd_T46 l1 x5_1).f0) x6_3).f1)) ∧ w'.cell? ⟨(ad346.add ((x6_3).toNat * 7)).block, (ad346.add ((x6_3).toNat * 7)).off + 2, none⟩ = some (.int .i64 ((rd_T55 ((rd_T46 l1 x5_1).f0) x6_3).f2)) ∧ w'.cell? ⟨(ad346.add ((x6_3).toNat * 7)).block, (ad346.add ((x6_3).toNat * 7)).off + 3, none⟩ = some (.int .i64 ((rd_T55 ((rd_T46 l1 x5_1).f0) x6_3).f3)) ∧ w'.cell? ⟨(ad346.add ((x6_3).toNat * 7)).block, (ad346.add ((x6_3).toNat * 7)).off + 4, none⟩ = some (.int .u64 ((rd_T55 ((rd_T46 l1 x5_1).f0) x6_3).f4)) ∧ w'.cell? ⟨(ad346.add ((x6_3).toNat * 7)).block, (ad346.add ((x6_3).toNat * 7)).off + 5, none⟩ = some (.int .u64 ((rd_T55 ((rd_T46 l1 x5_1).f0) x6_3).f5)) ∧ w'.cell? ⟨(ad346.add ((x6_3).toNat * 7)).block, (ad346.add ((x6_3).toNat * 7)).off + 6, none⟩ = some (.int .u64 ((rd_T55 ((rd_T46 l1 x5_1).f0) x6_3).f6))) (ds := []) (fl 0 18) (by kernel_rfl) rfl rfl ⟨((HB.out.cell (World.block_lt_of_cell? w _ hw343_0)).trans hw343_0), ((HB.out.cell (World.block_lt_of_cell? w _ hw343_1)).trans hw343_1), ((HB.out.cell (World.block_lt_of_cell? w _ hw344_0)).trans hw344_0), ((HB.out.cell (World.block_lt_of_cell? w _ hw344_1)).trans hw344_1), ((HB.out.cell (World.block_lt_of_cell? w _ hw344_2)).trans hw344_2), ((HB.out.cell (World.block_lt_of_cell? w _ hw344_3)).trans hw344_3), ((HB.out.cell (World.block_lt_of_cell? w _ hw344_4)).trans hw344_4), ((HB.out.cell (World.block_lt_of_cell? w _ hw344_5)).trans hw344_5), ((HB.out.cell (World.block_lt_of_cell? w _ hw344_6)).trans hw344_6), ((HB.out.cell (World.block_lt_of_cell? w _ hw345_0)).trans hw345_0), ((HB.out.cell (World.block_lt_of_cell? w _ hw345_1)).trans hw345_1), ((HB.out.cell (World.block_lt_of_cell? w _ hw346_0)).trans hw346_0), ((HB.out.cell (World.block_lt_of_cell? w _ hw346_1)).trans hw346_1), ((HB.out.cell (World.block_lt_of_cell? w _ hw346_2)).trans hw346_2), ((HB.out.cell (World.block_lt_of_cell? w _ hw346_3)).trans hw346_3), ((HB.out.cell (World.block_lt_of_cell? w _ hw346_4)).trans hw346_4), ((HB.out.cell (World.block_lt_of_cell? w _ hw346_5)).trans hw346_5), ((HB.out.cell (World.block_lt_of_cell? w _ hw346_6)).trans hw346_6)⟩ (fun hHeld => ?_); refine with_tabW stockadelaw18_Is.tab11 stockadelaw18_Is.bits11 (fun HT_ HW_ => ?_)
                 generalize wr.drew = w22 at HB HR343_0 HR345_0 hx343_0 hx343_1 hx344_0 hx344_1 hx344_2 hx344_3 hx344_4 hx344_5 hx344_6 hx345_0 hx345_1 hx346_0 hx346_1 hx346_2 hx346_3 hx346_4 hx346_5 hx346_6 hHeld ⊢
                 refine pure_ (i := 0) (N := some 54) (v := ?_) (a' := ?_) (fl 1 17) rfl rfl (any_of HT_.out (by kernel_rfl)) (fun _ _ _ h => h) (Or.inl ⟨by rfl, ?_⟩) ?_ ?_
                 rotate_left; exact ga_; rotate_left; exact gb_
                 refine pure_ (i := 1) (N := some 55) (v := ?_) (a' := ?_) (fl 2 16) rfl rfl (any_of HT_.out (by kernel_rfl)) (fun _ _ _ h => h) (Or.inl ⟨by rfl, ?_⟩) ?_ ?_
                 rotate_left; exact ga_; rotate_left; exact gb_
                 refine pure_ (i := 2) (N := some 56) (v := ?_) (a' := ?_) (fl 3 15) rfl rfl (any_of HT_.out (by kernel_rfl)) (fun _ _ _ h => h) (Or.inl ⟨by rfl, ?_⟩) ?_ ?_
                 rotate_left; exact ga_; rotate_left; exact gb_
                 refine pure_ (i := 3) (N := some 57) (v := ?_) (a' := ?_) (fl 4 14) rfl rfl (any_of HT_.out (by kernel_rfl)) (fun _ _ _ h => h) (Or.inl ⟨by rfl, ?_⟩) ?_ ?_
                 rotate_left; exact ga_; rotate_left; exact gb_
                 refine pure_ (i := 5) (N := some 59) (v := ?_) (a' := ?_) (fm 18 47) rfl rfl (any_of HT_.out (by kernel_rfl)) (fun _ _ _ h => h) (Or.inl ⟨by rfl, ?_⟩) ?_ ?_
                 rotate_left; exact ga_; rotate_left; exact gb_
                 refine pure_ (i := 8) (N := some 62) (v := ?_) (a' := ?_) (fm 18 303) rfl rfl (any_of HT_.out (by kernel_rfl)) (fun _ _ _ h => h) (Or.inl ⟨by rfl, ?_⟩) ?_ ?_
                 rotate_left; exact ga_; rotate_left; exact gb_
                 refine pure_ (i := 9) (N := some 63) (v := ?_) (a' := ?_) (fm 18 815) rfl rfl (any_of HT_.out (by kernel_rfl)) (fun _ _ _ h => h) (Or.inl ⟨by rfl, ?_⟩) ?_ ?_
                 rotate_left; exact ga_; rotate_left; exact gb_
                 refine pure_ (i := 10) (N := some 64) (v := ?_) (a' := ?_) (fm 18 1839) rfl rfl (any_of HT_.out (by kernel_rfl)) (fun _ _ _ h => h) (Or.inl ⟨by rfl, ?_⟩) ?_ ?_
                 rotate_left; exact ga_; rotate_left; exact gb_
                 refine pure_ (i := 11) (N := some 65) (v := ?_) (a' := ?_) (fm 18 3887) rfl rfl (any_of HT_.out (by kernel_rfl)) (fun _ _ _ h => h) (Or.inl ⟨by rfl, ?_⟩) ?_ ?_
                 rotate_left; exact ga_; rotate_left; exact gb_
                 refine pure_ (i := 13) (N := some 67) (v := ?_) (a' := ?_) (fm 18 12079) rfl rfl (any_of HT_.out (by kernel_rfl)) (fun _ _ _ h => h) (Or.inl ⟨by rfl, ?_⟩) ?_ ?_
                 rotate_left; exact ga_; rotate_left; exact gb_
                 refine take_ (i := 4) (N := some 58) (v := ?_) (a' := ?_) (fm 18 12095) rfl rfl (take_ofW HT_.out HW_.out (by kernel_rfl)) (fun _ _ _ h => h) (Or.inl ⟨by rfl, ?_⟩) hHeld ?_ ?_
                 rotate_left; exact ga18_; rotate_left; exact gb_
                 refine pure_ (i := 6) (N := some 60) (v := ?_) (a' := ?_) (fm 18 12159) rfl rfl (any_of HT_.out (by kernel_rfl)) (fun _ _ _ h => h) (Or.inl ⟨by rfl, ?_⟩) ?_ ?_
                 rotate_left; exact ga_; rotate_left; exact gb_
                 refine take_ (i := 7) (N := some 61) (v := ?_) (a' := ?_) (fm 18 12287) rfl rfl (take_ofW HT_.out HW_.out (by kernel_rfl)) (fun _ _ _ h => h) (Or.inl ⟨by rfl, ?_⟩) hHeld ?_ ?_
                 rotate_left; exact ga18_; rotate_left; exact gb_
                 refine take_ (i := 12) (N := some 66) (v := ?_) (a' := ?_) (fl 14 4) rfl rfl (take_ofW HT_.out HW_.out (by kernel_rfl)) (fun _ _ _ h => h) (Or.inl ⟨by rfl, ?_⟩) hHeld ?_ ?_
                 rotate_left; exact ga18_; rotate_left; exact gb_
                 refine pure_ (i := 14) (N := some 68) (v := ?_) (a' := ?_) (fl 15 3) rfl rfl (any_of HT_.out (by kernel_rfl)) (fun _ _ _ h => h) (Or.inl ⟨by rfl, ?_⟩) ?_ ?_
                 rotate_left; exact ga_; rotate_left; exact gb_
                 refine take_ (i := 15) (N := some 69) (v := ?_) (a' := ?_) (fl 16 2) rfl rfl (take_ofW HT_.out HW_.out (by kernel_rfl)) (fun _ _ _ h => h) (Or.inl ⟨by rfl, ?_⟩) hHeld ?_ ?_
                 rotate_left; exact ga18_; rotate_left; exact gb_
                 refine one_ (i := 16) (N := some 70) (fl 17 1) rfl rfl (one_of HT_.out (by kernel_rfl)) (by decide) (fun K hK => ?_)
                 refine goes_ Tryd.func27 (by kernel_rfl) rfl #[.agg #[.bool ((rd_T55 ((rd_T46 l1 x5_1).f0) x6_3).f0), .int .i64 ((rd_T55 ((rd_T46 l1 x5_1).f0) x6_3).f1), .int .i64 ((rd_T55 ((rd_T46 l1 x5_1).f0) x6_3).f2), .int .i64 ((rd_T55 ((rd_T46 l1 x5_1).f0) x6_3).f3), .int .u64 ((rd_T55 ((rd_T46 l1 x5_1).f0) x6_3).f4), .int .u64 ((rd_T55 ((rd_T46 l1 x5_1).f0) x6_3).f5), .int .u64 ((rd_T55 ((rd_T46 l1 x5_1).f0) x6_3).f6)]] (by rfl) rfl rfl (by (try simp only [List.map_toArray, List.map_cons, List.map_nil]); first | done | rfl | (simp only [List.length_drop, List.length_take]; rfl)) ?_
                 with_reducible refine (stockadelaw18_Test.calls ((rd_T55 ((rd_T46 l1 x5_1).f0) x6_3).f0) ((rd_T55 ((rd_T46 l1 x5_1).f0) x6_3).f1) ((rd_T55 ((rd_T46 l1 x5_1).f0) x6_3).f2) ((rd_T55 ((rd_T46 l1 x5_1).f0) x6_3).f3) ((rd_T55 ((rd_T46 l1 x5_1).f0) x6_3).f4) ((rd_T55 ((rd_T46 l1 x5_1).f0) x6_3).f5) ((rd_T55 ((rd_T46 l1 x5_1).f0) x6_3).f6) t347 t348 t349 t350 t351 t352 t353 _ A18.out).mono ?_
                 rintro e w23 ⟨rfl, hb⟩
                 refine ⟨_, rfl, ?_⟩
                 have n0_ := Aside0.mk (below_step b_now hb)
                 clear HB
                 have HB := n0_
                 clear n0_
                 (try clear hb)
                 (try clear hb2)
                 (try clear hk)
                 (try clear hi)
                 refine hK.out _ _ ⟨((HB.out.cell (World.block_lt_of_cell? w _ hw343_0)).trans hw343_0), ((HB.out.cell (World.block_lt_of_cell? w _ hw343_1)).trans hw343_1), ((HB.out.cell (World.block_lt_of_cell? w _ hw344_0)).trans hw344_0), ((HB.out.cell (World.block_lt_of_cell? w _ hw344_1)).trans hw344_1), ((HB.out.cell (World.block_lt_of_cell? w _ hw344_2)).trans hw344_2), ((HB.out.cell (World.block_lt_of_cell? w _ hw344_3)).trans hw344_3), ((HB.out.cell (World.block_lt_of_cell? w _ hw344_4)).trans hw344_4), ((HB.out.cell (World.block_lt_of_cell? w _ hw344_5)).trans hw344_5), ((HB.out.cell (World.block_lt_of_cell? w _ hw344_6)).trans hw344_6), ((HB.out.cell (World.block_lt_of_cell? w _ hw345_0)).trans hw345_0), ((HB.out.cell (World.block_lt_of_cell? w _ hw345_1)).trans hw345_1), ((HB.out.cell (World.block_lt_of_cell? w _ hw346_0)).trans hw346_0), ((HB.out.cell (World.block_lt_of_cell? w _ hw346_1)).trans hw346_1), ((HB.out.cell (World.block_lt_of_cell? w _ hw346_2)).trans hw346_2), ((HB.out.cell (World.block_lt_of_cell? w _ hw346_3)).trans hw346_3), ((HB.out.cell (World.block_lt_of_cell? w _ hw346_4)).trans hw346_4), ((HB.out.cell (World.block_lt_of_cell? w _ hw346_5)).trans hw346_5), ((HB.out.cell (World.block_lt_of_cell? w _ hw346_6)).trans hw346_6)⟩ (fun hHeld => ?_)
                 clear hK K
                 refine norm_ (a' := ?_) ?_ ?_
                 rotate_left
                 ·show Act.put _ (some 70) _ = _
                  simp only [Act.put, List.setIfInBounds_toArray, List.set_cons_zero, List.set_cons_succ, i64_w, i32_w]
                  rfl
                 refine pure_ (i := 17) (N := some 71) (v := ?_) (a' := ?_) (fl 18 0) rfl rfl (any_of HT_.out (by kernel_rfl)) (fun _ _ _ h => h) (Or.inl ⟨by rfl, ?_⟩) ?_ ?_
                 rotate_left; exact ga_; rotate_left; exact gb_
                 refine done_ (done_of HT_.out (by kernel_rfl)) ?_
                 try go_wp2
                 go_roundg k3
                 case measure => have := HK1.out; have := HJ4.out; have := HK3.out; omega
                 case rel => exact ⟨(wrap64 (x6_3 + 1)), eq_now, H', ⟨by have := HK1.out; have := HJ4.out; have := HK3.out; omega⟩, ⟨b_now⟩⟩
               ·rw [if_neg c17] at H
                exact absurd H (by simp)
              ·rw [if_neg c16] at H
               exact absurd H (by simp)
             ·rw [if_neg c15] at H
              exact absurd H (by simp)
            ·rw [if_neg c14] at H
             have c14b0 : decide (x6_3 < (((rd_T53 l0 x5_1).f0).length : Int)) = false := decide_eq_false c14
             clear c14
             have H' := Aside0.mk H
             clear H
             have p342 : 0 ≤ (x5_1 : Int) := of_decide_eq_true (by first | (with_reducible assumption) | assumption)
             have q342 : x5_1 < (l0.length : Int) := of_decide_eq_true (by first | (with_reducible assumption) | assumption)
             obtain ⟨ad342, A342_0, c342_0, e342, hx342_0, hx342_1, hl342_0, hi342_0⟩ := at_T53 HR0.out x5_1 p342 q342
             cases e342
             replace hx342_0 := (HB.out.cell (World.block_lt_of_cell? w _ hx342_0)).trans hx342_0
             replace hx342_1 := (HB.out.cell (World.block_lt_of_cell? w _ hx342_1)).trans hx342_1
             have HR342_0 := Aside0.mk hi342_0
             have HC342_0 := Aside0.mk hl342_0
             clear hi342_0 hl342_0
             replace p342 := eq_true p342
             replace q342 := eq_true q342
             go_wp2
             go_roundg k3
             case measure => have := HK1.out; have := HJ4.out; have := HK3.out; omega
             case rel => exact ⟨(wrap64 (x5_1 + 1)), eq_now, H', ⟨by have := HK1.out; have := HJ4.out; have := HK3.out; omega⟩, ⟨b_now⟩⟩
           ·rw [if_neg c13] at H
            exact absurd H (by simp)
          ·rw [if_neg c12] at H
           exact absurd H (by simp)
    ·rw [if_neg c4] at H
     have c4b0 : decide (x5_1 < (l0.length : Int)) = false := decide_eq_false c4
     clear c4
     obtain rfl := Option.some.inj H
     go_wp2
     go_ret
     exact ⟨ret_now, b_now⟩
 ·rw [if_neg c3] at H
  have c3b0 : ((l0.length : Int) == (l1.length : Int)) = false := beq_eq_false_iff_ne.mpr c3
  have c3b1 : ((l0.length : Int) != (l1.length : Int)) = true := bne_iff_ne.mpr c3
  have c3b2 : (l0.length == l1.length) = false := by first | simpa using c3 | (simp at c3 ⊢; omega)
  obtain rfl := Option.some.inj H
  go_enter Tryd.func17, Tryd.ntmps17
  go_wp2
  go_ret
  exact ⟨ret_now, b_now⟩

end Go.Proofs.YtighficpbplkhaaDoor.P
