/- Made by this session's driver over the kit's printer: for each Go function a Lean function with the same answers, and a proof that the Go call comes to these answers; no conditions but the ones each theorem names. -/
import Derived.Test.YtkjcjlegokdpdaaDoorPx0
import Derived.Test.YtkjcjlegokdpdaaDoorPx14
namespace Go.Proofs.YtkjcjlegokdpdaaDoor.P
open Go.RowKit Go.Proofs.YtkjcjlegokdpdaaDoorW.PrintWords Go.Proofs.YtkjcjlegokdpdaaDoorW.PrintLast Go.Proofs.YtkjcjlegokdpdaaDoorW.PrintMore
attribute [local go_sem] max2_int min2_int max_two min_two max_three min_three max_four min_four   -- for this text's walks alone
set_option linter.unusedVariables false
set_option linter.unusedSimpArgs false

theorem ne_far {a q : Addr} {g : Nat} (h : a.block ≠ g) (e : q.block = a.block := by first | rfl | exact add_block _ _) : q.block ≠ g := by rw [e]; exact h
theorem ne_new {w : World} {a q : Addr} {g : Nat} {u : Value} (h : w.cell? q = some u) (hg : w.heap.size ≤ g) (e : q.block = a.block := by first | rfl | exact add_block _ _) : a.block ≠ g := by
 have := World.block_lt_of_cell? _ _ h
 rw [e] at this
 exact Nat.ne_of_lt (Nat.lt_of_lt_of_le this hg)

/-! ### stockaderef02_Places: function 44 -/
def stockaderef02_Places.f (k : Nat) (a0_0 : Int) (a0_1 : Int) (a0_2 : Int) (a0_3 : Int) (a0_4 : Int) : Option (Int) := (stockaderef02_Of.f k a0_0 a0_1 a0_2 a0_3 a0_4).bind fun bt367 => (if bt367.2.2.2.2.2 = 0 then (if bt367.1 = 10 then (some 2) else (if bt367.1 = 11 then (some 2) else (some 1))) else (some 0))
theorem stockaderef02_Places.mono : ∀ a0 a1 a2 a3 a4 k, LeO (stockaderef02_Places.f k a0 a1 a2 a3 a4) (stockaderef02_Places.f (k + 1) a0 a1 a2 a3 a4) := by
 intro a0 a1 a2 a3 a4 k
 unfold stockaderef02_Places.f
 repeat' first
   | (with_reducible exact stockaderef02_Of.mono _ _ _ _ _ _)
   | (with_reducible exact LeO.refl _)
   | (with_reducible exact LeO.none _)
   | (with_reducible refine LeO.ite ?_ ?_)
   | (with_reducible refine LeO.bind ?_ (fun _ => ?_))
   | exact stockaderef02_Of.mono _ _ _ _ _ _
   | exact LeO.none _
   | refine LeO.ite ?_ ?_
   | refine LeO.bind ?_ (fun _ => ?_)
set_option maxHeartbeats 8000000 in
set_option maxRecDepth 100000 in
theorem stockaderef02_Places.calls (k : Nat) (a0_0 : Int) (a0_1 : Int) (a0_2 : Int) (a0_3 : Int) (a0_4 : Int) (r : Int) (w : World) (h : stockaderef02_Places.f k a0_0 a0_1 a0_2 a0_3 a0_4 = some r) :
  Calls Tryd.prog 44 #[.agg #[.int .u8 a0_0, .int .u8 a0_1, .int .u8 a0_2, .int .i16 a0_3, .int .i32 a0_4]] w fun e w' => e = .returned (.int .i64 r) ∧ Below w.heap.size w w' := by
 have hu44 := Tryd.underlying44
 have hu69 := Tryd.underlying69
 have HB := Aside0.mk (Below.refl w.heap.size w)
 have H : ((stockaderef02_Of.f k a0_0 a0_1 a0_2 a0_3 a0_4).bind fun bt367 => (if bt367.2.2.2.2.2 = 0 then (if bt367.1 = 10 then (some 2) else (if bt367.1 = 11 then (some 2) else (some 1))) else (some 0))) = some r := h
 clear h
 replace H := Option.bind_eq_some_iff.mp H; obtain ⟨⟨t367, t368, t369, t370, t371, t372⟩, A20, H⟩ := H; try dsimp only at H
 have A2 := Aside0.mk A20
 clear A20
 by_cases c3 : t372 = 0
 ·rw [if_pos c3] at H
  have c3b0 : (t372 == 0) = true := beq_iff_eq.mpr c3
  have c3b1 : (t372 != 0) = false := bne_eq_false_iff_eq.mpr c3
  clear c3
  by_cases c4 : t367 = 10
  ·rw [if_pos c4] at H
   have c4b0 : (t367 == 10) = true := beq_iff_eq.mpr c4
   have c4b1 : (t367 != 10) = false := bne_eq_false_iff_eq.mpr c4
   clear c4
   obtain rfl := Option.some.inj H
   go_enter Tryd.func44, Tryd.ntmps44
   go_wp2_with (first | ((with_reducible refine gate_dst (N := 1) rfl ?_); refine sh_box 1 #[.int .u8 a0_0, .int .u8 a0_1, .int .u8 a0_2, .int .i16 a0_3, .int .i32 a0_4] 44 ?_; intro gb366 hg w5 hbox hb; have GE366 := sh_z (w := w) hg; replace HB := sh_b (w := w) hb; have BK366 := Aside0.mk (hbox); clear hb hbox hg; have hcz6 := blk_all5 BK366.out) | ((with_reducible refine gate_callee (f := 38) rfl ?_); refine sh_call (some 7) Tryd.func38 #[.agg #[.int .u8 a0_0, .int .u8 a0_1, .int .u8 a0_2, .int .i16 a0_3, .int .i32 a0_4]] ?_; (with_reducible refine (stockaderef02_Of.calls k a0_0 a0_1 a0_2 a0_3 a0_4 t367 t368 t369 t370 t371 t372 _ A2.out).mono ?_); rintro e w7 ⟨rfl, hb⟩; refine ⟨_, rfl, ?_⟩; replace BK366 := sh_k BK366 hb; replace HB := sh_b (w := w) hb; (try clear hb); (try clear hb2); (try clear hk); (try clear hi)) | ((with_reducible refine gate_dst (N := 3) rfl ?_); refine sh_box 3 #[.int .i64 0, .int .i64 0, .int .i64 0, .bool false, .bool false] 69 ?_; intro gb373 hg w8 hbox hb; have GE373 := sh_z (w := w) hg; have NB366_373 := sh_n BK366 hg; have NB373_366 := sh_s NB366_373; replace BK366 := sh_k BK366 hb; replace HB := sh_b (w := w) hb; have BK373 := Aside0.mk (hbox); clear hb hbox hg; have hnb9 := NB373_366.out; have hnc9 := NB366_373.out; have hcz10 := blk_all5 BK373.out))
   go_ret
   exact ⟨ret_now, b_now⟩
  ·rw [if_neg c4] at H
   have c4b0 : (t367 == 10) = false := beq_eq_false_iff_ne.mpr c4
   have c4b1 : (t367 != 10) = true := bne_iff_ne.mpr c4
   by_cases c11 : t367 = 11
   ·rw [if_pos c11] at H
    have c11b0 : (t367 == 11) = true := beq_iff_eq.mpr c11
    have c11b1 : (t367 != 11) = false := bne_eq_false_iff_eq.mpr c11
    clear c11
    obtain rfl := Option.some.inj H
    go_enter Tryd.func44, Tryd.ntmps44
    go_wp2_with (first | ((with_reducible refine gate_dst (N := 1) rfl ?_); refine sh_box 1 #[.int .u8 a0_0, .int .u8 a0_1, .int .u8 a0_2, .int .i16 a0_3, .int .i32 a0_4] 44 ?_; intro gb366 hg w12 hbox hb; have GE366 := sh_z (w := w) hg; replace HB := sh_b (w := w) hb; have BK366 := Aside0.mk (hbox); clear hb hbox hg; have hcz13 := blk_all5 BK366.out) | ((with_reducible refine gate_callee (f := 38) rfl ?_); refine sh_call (some 7) Tryd.func38 #[.agg #[.int .u8 a0_0, .int .u8 a0_1, .int .u8 a0_2, .int .i16 a0_3, .int .i32 a0_4]] ?_; (with_reducible refine (stockaderef02_Of.calls k a0_0 a0_1 a0_2 a0_3 a0_4 t367 t368 t369 t370 t371 t372 _ A2.out).mono ?_); rintro e w14 ⟨rfl, hb⟩; refine ⟨_, rfl, ?_⟩; replace BK366 := sh_k BK366 hb; replace HB := sh_b (w := w) hb; (try clear hb); (try clear hb2); (try clear hk); (try clear hi)) | ((with_reducible refine gate_dst (N := 3) rfl ?_); refine sh_box 3 #[.int .i64 0, .int .i64 0, .int .i64 0, .bool false, .bool false] 69 ?_; intro gb373 hg w15 hbox hb; have GE373 := sh_z (w := w) hg; have NB366_373 := sh_n BK366 hg; have NB373_366 := sh_s NB366_373; replace BK366 := sh_k BK366 hb; replace HB := sh_b (w := w) hb; have BK373 := Aside0.mk (hbox); clear hb hbox hg; have hnb16 := NB373_366.out; have hnc16 := NB366_373.out; have hcz17 := blk_all5 BK373.out))
    go_ret
    exact ⟨ret_now, b_now⟩
   ·rw [if_neg c11] at H
    have c11b0 : (t367 == 11) = false := beq_eq_false_iff_ne.mpr c11
    have c11b1 : (t367 != 11) = true := bne_iff_ne.mpr c11
    obtain rfl := Option.some.inj H
    go_enter Tryd.func44, Tryd.ntmps44
    go_wp2_with (first | ((with_reducible refine gate_dst (N := 1) rfl ?_); refine sh_box 1 #[.int .u8 a0_0, .int .u8 a0_1, .int .u8 a0_2, .int .i16 a0_3, .int .i32 a0_4] 44 ?_; intro gb366 hg w18 hbox hb; have GE366 := sh_z (w := w) hg; replace HB := sh_b (w := w) hb; have BK366 := Aside0.mk (hbox); clear hb hbox hg; have hcz19 := blk_all5 BK366.out) | ((with_reducible refine gate_callee (f := 38) rfl ?_); refine sh_call (some 7) Tryd.func38 #[.agg #[.int .u8 a0_0, .int .u8 a0_1, .int .u8 a0_2, .int .i16 a0_3, .int .i32 a0_4]] ?_; (with_reducible refine (stockaderef02_Of.calls k a0_0 a0_1 a0_2 a0_3 a0_4 t367 t368 t369 t370 t371 t372 _ A2.out).mono ?_); rintro e w20 ⟨rfl, hb⟩; refine ⟨_, rfl, ?_⟩; replace BK366 := sh_k BK366 hb; replace HB := sh_b (w := w) hb; (try clear hb); (try clear hb2); (try clear hk); (try clear hi)) | ((with_reducible refine gate_dst (N := 3) rfl ?_); refine sh_box 3 #[.int .i64 0, .int .i64 0, .int .i64 0, .bool false, .bool false] 69 ?_; intro gb373 hg w21 hbox hb; have GE373 := sh_z (w := w) hg; have NB366_373 := sh_n BK366 hg; have NB373_366 := sh_s NB366_373; replace BK366 := sh_k BK366 hb; replace HB := sh_b (w := w) hb; have BK373 := Aside0.mk (hbox); clear hb hbox hg; have hnb22 := NB373_366.out; have hnc22 := NB366_373.out; have hcz23 := blk_all5 BK373.out))
    go_ret
    exact ⟨ret_now, b_now⟩
 ·rw [if_neg c3] at H
  have c3b0 : (t372 == 0) = false := beq_eq_false_iff_ne.mpr c3
  have c3b1 : (t372 != 0) = true := bne_iff_ne.mpr c3
  obtain rfl := Option.some.inj H
  go_enter Tryd.func44, Tryd.ntmps44
  go_wp2_with (first | ((with_reducible refine gate_dst (N := 1) rfl ?_); refine sh_box 1 #[.int .u8 a0_0, .int .u8 a0_1, .int .u8 a0_2, .int .i16 a0_3, .int .i32 a0_4] 44 ?_; intro gb366 hg w24 hbox hb; have GE366 := sh_z (w := w) hg; replace HB := sh_b (w := w) hb; have BK366 := Aside0.mk (hbox); clear hb hbox hg; have hcz25 := blk_all5 BK366.out) | ((with_reducible refine gate_callee (f := 38) rfl ?_); refine sh_call (some 7) Tryd.func38 #[.agg #[.int .u8 a0_0, .int .u8 a0_1, .int .u8 a0_2, .int .i16 a0_3, .int .i32 a0_4]] ?_; (with_reducible refine (stockaderef02_Of.calls k a0_0 a0_1 a0_2 a0_3 a0_4 t367 t368 t369 t370 t371 t372 _ A2.out).mono ?_); rintro e w26 ⟨rfl, hb⟩; refine ⟨_, rfl, ?_⟩; replace BK366 := sh_k BK366 hb; replace HB := sh_b (w := w) hb; (try clear hb); (try clear hb2); (try clear hk); (try clear hi)) | ((with_reducible refine gate_dst (N := 3) rfl ?_); refine sh_box 3 #[.int .i64 0, .int .i64 0, .int .i64 0, .bool false, .bool false] 69 ?_; intro gb373 hg w27 hbox hb; have GE373 := sh_z (w := w) hg; have NB366_373 := sh_n BK366 hg; have NB373_366 := sh_s NB366_373; replace BK366 := sh_k BK366 hb; replace HB := sh_b (w := w) hb; have BK373 := Aside0.mk (hbox); clear hb hbox hg; have hnb28 := NB373_366.out; have hnc28 := NB366_373.out; have hcz29 := blk_all5 BK373.out))
  go_ret
  exact ⟨ret_now, b_now⟩

/-! ### stockaderef05_Start: function 33 -/
mutual
def stockaderef05_Start.l0 : Nat → List (S44) → Int → Int → Option (Bool)
 | 0, _, _, _ => none
 | k + 1, x0, x1, x5 => if x5 < x1 then (stockaderef05_Start.j1 k x0 x1 x5 (decide (x5 < (x0.length : Int)))) else (stockaderef05_Start.j1 k x0 x1 x5 false)
def stockaderef05_Start.j1 : Nat → List (S44) → Int → Int → Bool → Option (Bool)
 | 0, _, _, _, _ => none
 | k + 1, x0, x1, x5, x15 => if x15 = true then (if 0 ≤ x5 then (if x5 < (x0.length : Int) then ((stockaderef02_Places.f k ((rd_T44 x0 x5).f0) ((rd_T44 x0 x5).f1) ((rd_T44 x0 x5).f2) ((rd_T44 x0 x5).f3) ((rd_T44 x0 x5).f4)).bind fun t375 => (if t375 = 0 then (stockaderef05_Start.l0 k x0 x1 (wrap64 (x5 + 1))) else (stockaderef05_Start.l0 k x0 x1 (wrap64 (x5 + t375))))) else (none)) else (none)) else (if x1 ≥ 0 then (if x5 = x1 then (some (decide (x1 < (x0.length : Int)))) else (some false)) else (some false))
end
def stockaderef05_Start.f (k : Nat) (l0 : List (S44)) (a1 : Int) : Option (Bool) := stockaderef05_Start.l0 k l0 a1 0
theorem stockaderef05_Start.mono_l : ∀ k, (∀ y0 y1 y2, LeO (stockaderef05_Start.l0 k y0 y1 y2) (stockaderef05_Start.l0 (k + 1) y0 y1 y2)) ∧ (∀ y0 y1 y2 y3, LeO (stockaderef05_Start.j1 k y0 y1 y2 y3) (stockaderef05_Start.j1 (k + 1) y0 y1 y2 y3))
 | 0 => ⟨fun _ _ _ r h => by simp [stockaderef05_Start.l0] at h, fun _ _ _ _ r h => by simp [stockaderef05_Start.j1] at h⟩
 | k + 1 => by
  obtain ⟨ih0, ih1⟩ := stockaderef05_Start.mono_l k
  refine ⟨?_, ?_⟩
  ·intro y0 y1 y2
   unfold stockaderef05_Start.l0
   repeat' first
   | (with_reducible exact ih0 _ _ _)
   | (with_reducible exact ih1 _ _ _ _)
   | (with_reducible exact stockaderef02_Places.mono _ _ _ _ _ _)
   | (with_reducible exact LeO.refl _)
   | (with_reducible exact LeO.none _)
   | (with_reducible refine LeO.ite ?_ ?_)
   | (with_reducible refine LeO.bind ?_ (fun _ => ?_))
   | exact ih0 _ _ _
   | exact ih1 _ _ _ _
   | exact stockaderef02_Places.mono _ _ _ _ _ _
   | exact LeO.none _
   | refine LeO.ite ?_ ?_
   | refine LeO.bind ?_ (fun _ => ?_)
  ·intro y0 y1 y2 y3
   unfold stockaderef05_Start.j1
   repeat' first
   | (with_reducible exact ih0 _ _ _)
   | (with_reducible exact ih1 _ _ _ _)
   | (with_reducible exact stockaderef02_Places.mono _ _ _ _ _ _)
   | (with_reducible exact LeO.refl _)
   | (with_reducible exact LeO.none _)
   | (with_reducible refine LeO.ite ?_ ?_)
   | (with_reducible refine LeO.bind ?_ (fun _ => ?_))
   | exact ih0 _ _ _
   | exact ih1 _ _ _ _
   | exact stockaderef02_Places.mono _ _ _ _ _ _
   | exact LeO.none _
   | refine LeO.ite ?_ ?_
   | refine LeO.bind ?_ (fun _ => ?_)
theorem stockaderef05_Start.mono : ∀ a0 a1 k, LeO (stockaderef05_Start.f k a0 a1) (stockaderef05_Start.f (k + 1) a0 a1) := by
 intro a0 a1 k
 obtain ⟨ih0, ih1⟩ := stockaderef05_Start.mono_l k
 unfold stockaderef05_Start.f
 repeat' first
   | (with_reducible exact ih0 _ _ _)
   | (with_reducible exact ih1 _ _ _ _)
   | (with_reducible exact stockaderef02_Places.mono _ _ _ _ _ _)
   | (with_reducible exact LeO.refl _)
   | (with_reducible exact LeO.none _)
   | (with_reducible refine LeO.ite ?_ ?_)
   | (with_reducible refine LeO.bind ?_ (fun _ => ?_))
   | exact ih0 _ _ _
   | exact ih1 _ _ _ _
   | exact stockaderef02_Places.mono _ _ _ _ _ _
   | exact LeO.none _
   | refine LeO.ite ?_ ?_
   | refine LeO.bind ?_ (fun _ => ?_)
set_option maxHeartbeats 8000000 in
set_option maxRecDepth 100000 in
theorem stockaderef05_Start.calls (k : Nat) (A0 : Option Addr) (c0 : Nat) (l0 : List (S44)) (a1 : Int) (r : Bool) (w : World) (hr0 : Kd.C k44 w A0 l0.length l0) (hc0 : l0.length ≤ c0) (h : stockaderef05_Start.f k l0 a1 = some r) :
  Calls Tryd.prog 33 #[.slice A0 l0.length c0, .int .i64 a1] w fun e w' => e = .returned (.bool r) ∧ Below w.heap.size w w' := by
 have hu44 := Tryd.underlying44
 have HR0 := Aside0.mk hr0
 have HC0 := Aside0.mk hc0
 clear hr0 hc0
 have HB := Aside0.mk (Below.refl w.heap.size w)
 have H : (stockaderef05_Start.l0 k l0 a1 0) = some r := h
 clear h
 have H' := Aside0.mk H
 clear H
 go_enter Tryd.func33, Tryd.ntmps33
 go_wp2
 go_loopg [5] k (fun kq v5 w' => ∃ (x5_1 : Int), v5 = .int .i64 x5_1 ∧ Aside0 (stockaderef05_Start.l0 kq l0 a1 x5_1 = some r) ∧ Aside0 (kq ≤ k) ∧ Aside0 (Below w.heap.size w w'))
 case atStart => exact ⟨(0), eq_now, H', ⟨Nat.le_refl _⟩, ⟨b_now⟩⟩
 case round =>
  clear H'
  try clear p2
  obtain ⟨x5_1, rfl, HA, HK1, HB⟩ := hrel
  cases gk with
  | zero => exact absurd HA.out (by simp [stockaderef05_Start.l0])
  | succ k1 =>
   have H := HA.out
   clear HA
   simp only [stockaderef05_Start.l0] at H
   have HC3 := Aside0.mk H
   clear H
   go_upto_region 2 with (fail)
   go_cut [15] (fun v15 wc => ∃ (kq : Nat) (x15_2 : Bool), v15 = .bool x15_2 ∧ Aside0 (stockaderef05_Start.j1 kq l0 a1 x5_1 x15_2 = some r) ∧ Aside0 (kq ≤ k1) ∧ Aside0 (Below w.heap.size w wc))
   case first =>
    have H := HC3.out
    clear HC3
    by_cases c4 : x5_1 < a1
    ·rw [if_pos c4] at H
     have c4b0 : decide (x5_1 < a1) = true := decide_eq_true c4
     clear c4
     (first | rw [c4b0] | (simp only [i64_w, i32_w]; rw [c4b0]) | skip)
     have H' := Aside0.mk H
     clear H
     go_wp2
     go_meet
     case rel => exact ⟨_, (decide (x5_1 < (l0.length : Int))), eq_now, H', ⟨by have := HK1.out; first | omega | exact Nat.le_refl _⟩, ⟨b_now⟩⟩
    ·rw [if_neg c4] at H
     have c4b0 : decide (x5_1 < a1) = false := decide_eq_false c4
     clear c4
     (first | rw [c4b0] | (simp only [i64_w, i32_w]; rw [c4b0]) | skip)
     have H' := Aside0.mk H
     clear H
     go_wp2
     go_meet
     case rel => exact ⟨_, (false), eq_now, H', ⟨by have := HK1.out; first | omega | exact Nat.le_refl _⟩, ⟨b_now⟩⟩
   case rest =>
    clear HC3
    try clear p2
    try clear c3
    try clear c4
    try clear c4b0
    try clear p2
    obtain ⟨kq, x15_2, rfl, HA, HJ2, HB⟩ := hcut
    cases kq with
    | zero => exact absurd HA.out (by simp [stockaderef05_Start.j1])
    | succ kj2 =>
     have H := HA.out
     clear HA
     simp only [stockaderef05_Start.j1] at H
     by_cases c5 : x15_2 = true
     ·subst c5
      replace H := sh_t H
      by_cases c6 : 0 ≤ x5_1
      ·rw [if_pos c6] at H
       have c6b0 : decide (0 ≤ x5_1) = true := decide_eq_true c6
       clear c6
       by_cases c7 : x5_1 < (l0.length : Int)
       ·rw [if_pos c7] at H
        have c7b0 : decide (x5_1 < (l0.length : Int)) = true := decide_eq_true c7
        clear c7
        replace H := Option.bind_eq_some_iff.mp H; obtain ⟨t375, A80, H⟩ := H; try dsimp only at H
        have A8 := Aside0.mk A80
        clear A80
        by_cases c9 : t375 = 0
        ·rw [if_pos c9] at H
         have c9b0 : (t375 == 0) = true := beq_iff_eq.mpr c9
         have c9b1 : (t375 != 0) = false := bne_eq_false_iff_eq.mpr c9
         clear c9
         have H' := Aside0.mk H
         clear H
         have p374 : 0 ≤ (x5_1 : Int) := of_decide_eq_true (by first | (with_reducible assumption) | assumption)
         have q374 : x5_1 < (l0.length : Int) := of_decide_eq_true (by first | (with_reducible assumption) | assumption)
         obtain ⟨ad374, e374, hx374_0, hx374_1, hx374_2, hx374_3, hx374_4⟩ := at_T44 HR0.out x5_1 p374 q374
         cases e374
         replace hx374_0 := (HB.out.cell (World.block_lt_of_cell? w _ hx374_0)).trans hx374_0
         replace hx374_1 := (HB.out.cell (World.block_lt_of_cell? w _ hx374_1)).trans hx374_1
         replace hx374_2 := (HB.out.cell (World.block_lt_of_cell? w _ hx374_2)).trans hx374_2
         replace hx374_3 := (HB.out.cell (World.block_lt_of_cell? w _ hx374_3)).trans hx374_3
         replace hx374_4 := (HB.out.cell (World.block_lt_of_cell? w _ hx374_4)).trans hx374_4
         replace p374 := eq_true p374
         replace q374 := eq_true q374
         go_wp2_with (first | ((with_reducible refine gate_callee (f := 44) rfl ?_); refine sh_call (some 20) Tryd.func44 #[.agg #[.int .u8 ((rd_T44 l0 x5_1).f0), .int .u8 ((rd_T44 l0 x5_1).f1), .int .u8 ((rd_T44 l0 x5_1).f2), .int .i16 ((rd_T44 l0 x5_1).f3), .int .i32 ((rd_T44 l0 x5_1).f4)]] ?_; (with_reducible refine (stockaderef02_Places.calls kj2 ((rd_T44 l0 x5_1).f0) ((rd_T44 l0 x5_1).f1) ((rd_T44 l0 x5_1).f2) ((rd_T44 l0 x5_1).f3) ((rd_T44 l0 x5_1).f4) t375 _ A8.out).mono ?_); rintro e w10 ⟨rfl, hb⟩; refine ⟨_, rfl, ?_⟩; replace HB := sh_b (w := w) hb; (try clear hb); (try clear hb2); (try clear hk); (try clear hi)))
         go_roundg kj2
         case measure => have := HK1.out; have := HJ2.out; omega
         case rel => exact ⟨(wrap64 (x5_1 + 1)), eq_now, H', ⟨by have := HK1.out; have := HJ2.out; omega⟩, ⟨b_now⟩⟩
        ·rw [if_neg c9] at H
         have c9b0 : (t375 == 0) = false := beq_eq_false_iff_ne.mpr c9
         have c9b1 : (t375 != 0) = true := bne_iff_ne.mpr c9
         have H' := Aside0.mk H
         clear H
         have p374 : 0 ≤ (x5_1 : Int) := of_decide_eq_true (by first | (with_reducible assumption) | assumption)
         have q374 : x5_1 < (l0.length : Int) := of_decide_eq_true (by first | (with_reducible assumption) | assumption)
         obtain ⟨ad374, e374, hx374_0, hx374_1, hx374_2, hx374_3, hx374_4⟩ := at_T44 HR0.out x5_1 p374 q374
         cases e374
         replace hx374_0 := (HB.out.cell (World.block_lt_of_cell? w _ hx374_0)).trans hx374_0
         replace hx374_1 := (HB.out.cell (World.block_lt_of_cell? w _ hx374_1)).trans hx374_1
         replace hx374_2 := (HB.out.cell (World.block_lt_of_cell? w _ hx374_2)).trans hx374_2
         replace hx374_3 := (HB.out.cell (World.block_lt_of_cell? w _ hx374_3)).trans hx374_3
         replace hx374_4 := (HB.out.cell (World.block_lt_of_cell? w _ hx374_4)).trans hx374_4
         replace p374 := eq_true p374
         replace q374 := eq_true q374
         go_wp2_with (first | ((with_reducible refine gate_callee (f := 44) rfl ?_); refine sh_call (some 20) Tryd.func44 #[.agg #[.int .u8 ((rd_T44 l0 x5_1).f0), .int .u8 ((rd_T44 l0 x5_1).f1), .int .u8 ((rd_T44 l0 x5_1).f2), .int .i16 ((rd_T44 l0 x5_1).f3), .int .i32 ((rd_T44 l0 x5_1).f4)]] ?_; (with_reducible refine (stockaderef02_Places.calls kj2 ((rd_T44 l0 x5_1).f0) ((rd_T44 l0 x5_1).f1) ((rd_T44 l0 x5_1).f2) ((rd_T44 l0 x5_1).f3) ((rd_T44 l0 x5_1).f4) t375 _ A8.out).mono ?_); rintro e w11 ⟨rfl, hb⟩; refine ⟨_, rfl, ?_⟩; replace HB := sh_b (w := w) hb; (try clear hb); (try clear hb2); (try clear hk); (try clear hi)))
         go_roundg kj2
         case measure => have := HK1.out; have := HJ2.out; omega
         case rel => exact ⟨(wrap64 (x5_1 + t375)), eq_now, H', ⟨by have := HK1.out; have := HJ2.out; omega⟩, ⟨b_now⟩⟩
       ·rw [if_neg c7] at H
        exact absurd H (by simp)
      ·rw [if_neg c6] at H
       exact absurd H (by simp)
     ·replace c5 := Bool.eq_false_iff.mpr c5
      subst c5
      replace H := sh_f H
      by_cases c12 : a1 ≥ 0
      ·rw [if_pos c12] at H
       have c12b0 : decide (0 ≤ a1) = true := decide_eq_true c12
       clear c12
       by_cases c13 : x5_1 = a1
       ·rw [if_pos c13] at H
        have c13b0 : (x5_1 == a1) = true := beq_iff_eq.mpr c13
        have c13b1 : (x5_1 != a1) = false := bne_eq_false_iff_eq.mpr c13
        clear c13
        obtain rfl := Option.some.inj H
        go_wp2
        go_ret
        exact ⟨ret_now, b_now⟩
       ·rw [if_neg c13] at H
        have c13b0 : (x5_1 == a1) = false := beq_eq_false_iff_ne.mpr c13
        have c13b1 : (x5_1 != a1) = true := bne_iff_ne.mpr c13
        obtain rfl := Option.some.inj H
        go_wp2
        go_ret
        exact ⟨ret_now, b_now⟩
      ·rw [if_neg c12] at H
       have c12b0 : decide (0 ≤ a1) = false := decide_eq_false c12
       clear c12
       obtain rfl := Option.some.inj H
       go_wp2
       go_ret
       exact ⟨ret_now, b_now⟩

/-! ### stockaderef05_Leads: function 29 -/
def stockaderef05_Leads.j0 : Nat → List (S44) → Int → Int → Bool → Option (Bool)
 | 0, _, _, _, _ => none
 | k + 1, x0, x1, x2, x19 => if x19 = true then (some false) else (if 0 ≤ x1 then (if x1 < (x0.length : Int) then ((stockaderef02_Of.f k ((rd_T44 x0 x1).f0) ((rd_T44 x0 x1).f1) ((rd_T44 x0 x1).f2) ((rd_T44 x0 x1).f3) ((rd_T44 x0 x1).f4)).bind fun bt379 => (if bt379.2.2.2.2.2 = 0 then (if bt379.1 = 9 then (some false) else (if bt379.1 = 7 then (some (x2 == (wrap64 ((wrap64 (x1 + 1)) + (wrap64 ((rd_T44 x0 x1).f3)))))) else (if bt379.1 = 6 then (if x2 = (wrap64 ((wrap64 (x1 + 1)) + (wrap64 ((rd_T44 x0 x1).f3)))) then (some true) else (some (x2 == (wrap64 (x1 + 1))))) else (if bt379.1 = 10 then (some (x2 == (wrap64 (x1 + 2)))) else (if bt379.1 = 11 then (some (x2 == (wrap64 (x1 + 2)))) else (some (x2 == (wrap64 (x1 + 1))))))))) else (some false))) else (none)) else (none))
def stockaderef05_Leads.f (k : Nat) (l0 : List (S44)) (a1 : Int) (a2 : Int) : Option (Bool) := (stockaderef05_Start.f k l0 a1).bind fun t376 => (if t376 = true then ((stockaderef05_Start.f k l0 a2).bind fun t377 => (stockaderef05_Leads.j0 k l0 a1 a2 (!t377))) else (stockaderef05_Leads.j0 k l0 a1 a2 true))
theorem stockaderef05_Leads.mono_l : ∀ k, (∀ y0 y1 y2 y3, LeO (stockaderef05_Leads.j0 k y0 y1 y2 y3) (stockaderef05_Leads.j0 (k + 1) y0 y1 y2 y3))
 | 0 => fun _ _ _ _ r h => by simp [stockaderef05_Leads.j0] at h
 | k + 1 => by
  have ih0 := stockaderef05_Leads.mono_l k
  ·intro y0 y1 y2 y3
   unfold stockaderef05_Leads.j0
   repeat' first
   | (with_reducible exact ih0 _ _ _ _)
   | (with_reducible exact stockaderef02_Of.mono _ _ _ _ _ _)
   | (with_reducible exact stockaderef05_Start.mono _ _ _)
   | (with_reducible exact LeO.refl _)
   | (with_reducible exact LeO.none _)
   | (with_reducible refine LeO.ite ?_ ?_)
   | (with_reducible refine LeO.bind ?_ (fun _ => ?_))
   | exact ih0 _ _ _ _
   | exact stockaderef02_Of.mono _ _ _ _ _ _
   | exact stockaderef05_Start.mono _ _ _
   | exact LeO.none _
   | refine LeO.ite ?_ ?_
   | refine LeO.bind ?_ (fun _ => ?_)
theorem stockaderef05_Leads.mono : ∀ a0 a1 a2 k, LeO (stockaderef05_Leads.f k a0 a1 a2) (stockaderef05_Leads.f (k + 1) a0 a1 a2) := by
 intro a0 a1 a2 k
 have ih0 := stockaderef05_Leads.mono_l k
 unfold stockaderef05_Leads.f
 repeat' first
   | (with_reducible exact ih0 _ _ _ _)
   | (with_reducible exact stockaderef02_Of.mono _ _ _ _ _ _)
   | (with_reducible exact stockaderef05_Start.mono _ _ _)
   | (with_reducible exact LeO.refl _)
   | (with_reducible exact LeO.none _)
   | (with_reducible refine LeO.ite ?_ ?_)
   | (with_reducible refine LeO.bind ?_ (fun _ => ?_))
   | exact ih0 _ _ _ _
   | exact stockaderef02_Of.mono _ _ _ _ _ _
   | exact stockaderef05_Start.mono _ _ _
   | exact LeO.none _
   | refine LeO.ite ?_ ?_
   | refine LeO.bind ?_ (fun _ => ?_)
set_option maxHeartbeats 8000000 in
set_option maxRecDepth 100000 in
theorem stockaderef05_Leads.calls (k : Nat) (A0 : Option Addr) (c0 : Nat) (l0 : List (S44)) (a1 : Int) (a2 : Int) (r : Bool) (w : World) (hr0 : Kd.C k44 w A0 l0.length l0) (hc0 : l0.length ≤ c0) (h : stockaderef05_Leads.f k l0 a1 a2 = some r) :
  Calls Tryd.prog 29 #[.slice A0 l0.length c0, .int .i64 a1, .int .i64 a2] w fun e w' => e = .returned (.bool r) ∧ Below w.heap.size w w' := by
 have hu44 := Tryd.underlying44
 have hu69 := Tryd.underlying69
 have HR0 := Aside0.mk hr0
 have HC0 := Aside0.mk hc0
 clear hr0 hc0
 have HB := Aside0.mk (Below.refl w.heap.size w)
 have H : ((stockaderef05_Start.f k l0 a1).bind fun t376 => (if t376 = true then ((stockaderef05_Start.f k l0 a2).bind fun t377 => (stockaderef05_Leads.j0 k l0 a1 a2 (!t377))) else (stockaderef05_Leads.j0 k l0 a1 a2 true))) = some r := h
 clear h
 have HC4 := Aside0.mk H
 clear H
 go_enter Tryd.func29, Tryd.ntmps29
 go_upto_region 1 with (fail)
 go_cut [19] (fun v19 wc => ∃ (kq : Nat) (x19_3 : Bool), v19 = .bool x19_3 ∧ Aside0 (stockaderef05_Leads.j0 kq l0 a1 a2 x19_3 = some r) ∧ Aside0 (kq ≤ k) ∧ Aside0 (Below w.heap.size w wc))
 case first =>
  have H := HC4.out
  clear HC4
  replace H := Option.bind_eq_some_iff.mp H; obtain ⟨t376, A50, H⟩ := H; try dsimp only at H
  have A5 := Aside0.mk A50
  clear A50
  by_cases c6 : t376 = true
  ·subst c6
   replace H := sh_t H
   replace H := Option.bind_eq_some_iff.mp H; obtain ⟨t377, A70, H⟩ := H; try dsimp only at H
   have A7 := Aside0.mk A70
   clear A70
   have H' := Aside0.mk H
   clear H
   go_wp2_with (first | ((with_reducible refine gate_callee (f := 33) rfl ?_); refine sh_call (some 12) Tryd.func33 #[.slice A0 l0.length c0, .int .i64 a1] ?_; (with_reducible refine (stockaderef05_Start.calls k _ _ l0 a1 true _ ?side1 ?side2 A5.out).mono ?_); (case side1 => repeat (first | exact (Kd.C_below HR0.out HB.out) | (with_reducible refine Kd.C_alloc ?_ _) | (with_reducible refine Kd.C_drewN ?_ _) | (with_reducible refine Kd.C_drew ?_))); (case side2 => exact HC0.out); rintro e w8 ⟨rfl, hb⟩; refine ⟨_, rfl, ?_⟩; replace HB := sh_b (w := w) hb; (try clear hb); (try clear hb2); (try clear hk); (try clear hi)) | (go_at_call 33; (with_reducible refine (stockaderef05_Start.calls k _ _ l0 a2 t377 _ ?side1 ?side2 A7.out).mono ?_); (case side1 => repeat (first | exact (Kd.C_below HR0.out HB.out) | (with_reducible refine Kd.C_alloc ?_ _) | (with_reducible refine Kd.C_drewN ?_ _) | (with_reducible refine Kd.C_drew ?_))); (case side2 => exact HC0.out); rintro e w9 ⟨rfl, hb⟩; replace HB := sh_b (w := w) hb; (try clear hb); (try clear hb2); (try clear hk); (try clear hi)))
   go_meet
   case rel => exact ⟨_, (!t377), eq_now, H', ⟨by first | omega | exact Nat.le_refl _⟩, ⟨b_now⟩⟩
  ·replace c6 := Bool.eq_false_iff.mpr c6
   subst c6
   replace H := sh_f H
   have H' := Aside0.mk H
   clear H
   go_wp2_with (first | ((with_reducible refine gate_callee (f := 33) rfl ?_); refine sh_call (some 12) Tryd.func33 #[.slice A0 l0.length c0, .int .i64 a1] ?_; (with_reducible refine (stockaderef05_Start.calls k _ _ l0 a1 false _ ?side1 ?side2 A5.out).mono ?_); (case side1 => repeat (first | exact (Kd.C_below HR0.out HB.out) | (with_reducible refine Kd.C_alloc ?_ _) | (with_reducible refine Kd.C_drewN ?_ _) | (with_reducible refine Kd.C_drew ?_))); (case side2 => exact HC0.out); rintro e w10 ⟨rfl, hb⟩; refine ⟨_, rfl, ?_⟩; replace HB := sh_b (w := w) hb; (try clear hb); (try clear hb2); (try clear hk); (try clear hi)))
   go_meet
   case rel => exact ⟨_, (true), eq_now, H', ⟨by first | omega | exact Nat.le_refl _⟩, ⟨b_now⟩⟩
 case rest =>
  clear HC4
  try clear c2
  try clear p2
  try clear c3
  try clear c6
  obtain ⟨kq, x19_3, rfl, HA, HJ3, HB⟩ := hcut
  cases kq with
  | zero => exact absurd HA.out (by simp [stockaderef05_Leads.j0])
  | succ kj3 =>
   have H := HA.out
   clear HA
   simp only [stockaderef05_Leads.j0] at H
   by_cases c11 : x19_3 = true
   ·subst c11
    replace H := sh_t H
    obtain rfl := Option.some.inj H
    go_wp2
    go_ret
    exact ⟨ret_now, b_now⟩
   ·replace c11 := Bool.eq_false_iff.mpr c11
    subst c11
    replace H := sh_f H
    by_cases c12 : 0 ≤ a1
    ·rw [if_pos c12] at H
     have c12b0 : decide (0 ≤ a1) = true := decide_eq_true c12
     clear c12
     by_cases c13 : a1 < (l0.length : Int)
     ·rw [if_pos c13] at H
      have c13b0 : decide (a1 < (l0.length : Int)) = true := decide_eq_true c13
      clear c13
      replace H := Option.bind_eq_some_iff.mp H; obtain ⟨⟨t379, t380, t381, t382, t383, t384⟩, A140, H⟩ := H; try dsimp only at H
      have A14 := Aside0.mk A140
      clear A140
      by_cases c15 : t384 = 0
      ·rw [if_pos c15] at H
       have c15b0 : (t384 == 0) = true := beq_iff_eq.mpr c15
       have c15b1 : (t384 != 0) = false := bne_eq_false_iff_eq.mpr c15
       clear c15
       by_cases c16 : t379 = 9
       ·rw [if_pos c16] at H
        have c16b0 : (t379 == 9) = true := beq_iff_eq.mpr c16
        have c16b1 : (t379 != 9) = false := bne_eq_false_iff_eq.mpr c16
        clear c16
        obtain rfl := Option.some.inj H
        have p378 : 0 ≤ (a1 : Int) := of_decide_eq_true (by first | (with_reducible assumption) | assumption)
        have q378 : a1 < (l0.length : Int) := of_decide_eq_true (by first | (with_reducible assumption) | assumption)
        obtain ⟨ad378, e378, hx378_0, hx378_1, hx378_2, hx378_3, hx378_4⟩ := at_T44 HR0.out a1 p378 q378
        cases e378
        replace hx378_0 := (HB.out.cell (World.block_lt_of_cell? w _ hx378_0)).trans hx378_0
        replace hx378_1 := (HB.out.cell (World.block_lt_of_cell? w _ hx378_1)).trans hx378_1
        replace hx378_2 := (HB.out.cell (World.block_lt_of_cell? w _ hx378_2)).trans hx378_2
        replace hx378_3 := (HB.out.cell (World.block_lt_of_cell? w _ hx378_3)).trans hx378_3
        replace hx378_4 := (HB.out.cell (World.block_lt_of_cell? w _ hx378_4)).trans hx378_4
        replace p378 := eq_true p378
        replace q378 := eq_true q378
        go_wp2_with (first | ((with_reducible refine gate_callee (f := 38) rfl ?_); refine sh_call (some 25) Tryd.func38 #[.agg #[.int .u8 ((rd_T44 l0 a1).f0), .int .u8 ((rd_T44 l0 a1).f1), .int .u8 ((rd_T44 l0 a1).f2), .int .i16 ((rd_T44 l0 a1).f3), .int .i32 ((rd_T44 l0 a1).f4)]] ?_; (with_reducible refine (stockaderef02_Of.calls kj3 ((rd_T44 l0 a1).f0) ((rd_T44 l0 a1).f1) ((rd_T44 l0 a1).f2) ((rd_T44 l0 a1).f3) ((rd_T44 l0 a1).f4) t379 t380 t381 t382 t383 t384 _ A14.out).mono ?_); rintro e w17 ⟨rfl, hb⟩; refine ⟨_, rfl, ?_⟩; replace HB := sh_b (w := w) hb; (try clear hb); (try clear hb2); (try clear hk); (try clear hi)) | ((with_reducible refine gate_dst (N := 7) rfl ?_); refine sh_box 7 #[.int .i64 0, .int .i64 0, .int .i64 0, .bool false, .bool false] 69 ?_; intro gb385 hg w18 hbox hb; have GW385 := sh_z (w := w) hg; have GE385 := sh_z (w := w) hg; replace HB := sh_b (w := w) hb; have BK385 := Aside0.mk (hbox); clear hb hbox hg; have hcz19 := blk_all5 BK385.out; have p386 : 0 ≤ (a1 : Int) := of_decide_eq_true (by first | (with_reducible assumption) | assumption); have q386 : a1 < (l0.length : Int) := of_decide_eq_true (by first | (with_reducible assumption) | assumption); obtain ⟨ad386, e386, hx386_0, hx386_1, hx386_2, hx386_3, hx386_4⟩ := at_T44 HR0.out a1 p386 q386; obtain rfl : ad378 = ad386 := (by injection e386); have hn386_0 : ad378.block ≠ gb385 := ne_new hx386_0 GW385.out; have hn386_1 : ad378.block ≠ gb385 := ne_new hx386_0 GW385.out; have hn386_2 : ad378.block ≠ gb385 := ne_new hx386_0 GW385.out; have hn386_3 : ad378.block ≠ gb385 := ne_new hx386_0 GW385.out; have hn386_4 : ad378.block ≠ gb385 := ne_new hx386_0 GW385.out; replace hx386_0 := (HB.out.cell (World.block_lt_of_cell? w _ hx386_0)).trans hx386_0; replace hx386_1 := (HB.out.cell (World.block_lt_of_cell? w _ hx386_1)).trans hx386_1; replace hx386_2 := (HB.out.cell (World.block_lt_of_cell? w _ hx386_2)).trans hx386_2; replace hx386_3 := (HB.out.cell (World.block_lt_of_cell? w _ hx386_3)).trans hx386_3; replace hx386_4 := (HB.out.cell (World.block_lt_of_cell? w _ hx386_4)).trans hx386_4; replace hx386_0 := (cell_far (p := ⟨gb385, 0, none⟩) (ne_far hn386_0) (.int .i64 t379)).trans hx386_0; replace hx386_1 := (cell_far (p := ⟨gb385, 0, none⟩) (ne_far hn386_0) (.int .i64 t379)).trans hx386_1; replace hx386_2 := (cell_far (p := ⟨gb385, 0, none⟩) (ne_far hn386_0) (.int .i64 t379)).trans hx386_2; replace hx386_3 := (cell_far (p := ⟨gb385, 0, none⟩) (ne_far hn386_0) (.int .i64 t379)).trans hx386_3; replace hx386_4 := (cell_far (p := ⟨gb385, 0, none⟩) (ne_far hn386_0) (.int .i64 t379)).trans hx386_4; replace hx386_0 := (cell_far (p := ⟨gb385, 1, none⟩) (ne_far hn386_1) (.int .i64 t380)).trans hx386_0; replace hx386_1 := (cell_far (p := ⟨gb385, 1, none⟩) (ne_far hn386_1) (.int .i64 t380)).trans hx386_1; replace hx386_2 := (cell_far (p := ⟨gb385, 1, none⟩) (ne_far hn386_1) (.int .i64 t380)).trans hx386_2; replace hx386_3 := (cell_far (p := ⟨gb385, 1, none⟩) (ne_far hn386_1) (.int .i64 t380)).trans hx386_3; replace hx386_4 := (cell_far (p := ⟨gb385, 1, none⟩) (ne_far hn386_1) (.int .i64 t380)).trans hx386_4; replace hx386_0 := (cell_far (p := ⟨gb385, 2, none⟩) (ne_far hn386_2) (.int .i64 t381)).trans hx386_0; replace hx386_1 := (cell_far (p := ⟨gb385, 2, none⟩) (ne_far hn386_2) (.int .i64 t381)).trans hx386_1; replace hx386_2 := (cell_far (p := ⟨gb385, 2, none⟩) (ne_far hn386_2) (.int .i64 t381)).trans hx386_2; replace hx386_3 := (cell_far (p := ⟨gb385, 2, none⟩) (ne_far hn386_2) (.int .i64 t381)).trans hx386_3; replace hx386_4 := (cell_far (p := ⟨gb385, 2, none⟩) (ne_far hn386_2) (.int .i64 t381)).trans hx386_4; replace hx386_0 := (cell_far (p := ⟨gb385, 3, none⟩) (ne_far hn386_3) (.bool t382)).trans hx386_0; replace hx386_1 := (cell_far (p := ⟨gb385, 3, none⟩) (ne_far hn386_3) (.bool t382)).trans hx386_1; replace hx386_2 := (cell_far (p := ⟨gb385, 3, none⟩) (ne_far hn386_3) (.bool t382)).trans hx386_2; replace hx386_3 := (cell_far (p := ⟨gb385, 3, none⟩) (ne_far hn386_3) (.bool t382)).trans hx386_3; replace hx386_4 := (cell_far (p := ⟨gb385, 3, none⟩) (ne_far hn386_3) (.bool t382)).trans hx386_4; replace hx386_0 := (cell_far (p := ⟨gb385, 4, none⟩) (ne_far hn386_4) (.bool t383)).trans hx386_0; replace hx386_1 := (cell_far (p := ⟨gb385, 4, none⟩) (ne_far hn386_4) (.bool t383)).trans hx386_1; replace hx386_2 := (cell_far (p := ⟨gb385, 4, none⟩) (ne_far hn386_4) (.bool t383)).trans hx386_2; replace hx386_3 := (cell_far (p := ⟨gb385, 4, none⟩) (ne_far hn386_4) (.bool t383)).trans hx386_3; replace hx386_4 := (cell_far (p := ⟨gb385, 4, none⟩) (ne_far hn386_4) (.bool t383)).trans hx386_4; clear hn386_0; clear hn386_1; clear hn386_2; clear hn386_3; clear hn386_4; replace p386 := eq_true p386; replace q386 := eq_true q386))
        go_ret
        exact ⟨ret_now, b_now⟩
       ·rw [if_neg c16] at H
        have c16b0 : (t379 == 9) = false := beq_eq_false_iff_ne.mpr c16
        have c16b1 : (t379 != 9) = true := bne_iff_ne.mpr c16
        by_cases c20 : t379 = 7
        ·rw [if_pos c20] at H
         have c20b0 : (t379 == 7) = true := beq_iff_eq.mpr c20
         have c20b1 : (t379 != 7) = false := bne_eq_false_iff_eq.mpr c20
         clear c20
         obtain rfl := Option.some.inj H
         have p378 : 0 ≤ (a1 : Int) := of_decide_eq_true (by first | (with_reducible assumption) | assumption)
         have q378 : a1 < (l0.length : Int) := of_decide_eq_true (by first | (with_reducible assumption) | assumption)
         obtain ⟨ad378, e378, hx378_0, hx378_1, hx378_2, hx378_3, hx378_4⟩ := at_T44 HR0.out a1 p378 q378
         cases e378
         replace hx378_0 := (HB.out.cell (World.block_lt_of_cell? w _ hx378_0)).trans hx378_0
         replace hx378_1 := (HB.out.cell (World.block_lt_of_cell? w _ hx378_1)).trans hx378_1
         replace hx378_2 := (HB.out.cell (World.block_lt_of_cell? w _ hx378_2)).trans hx378_2
         replace hx378_3 := (HB.out.cell (World.block_lt_of_cell? w _ hx378_3)).trans hx378_3
         replace hx378_4 := (HB.out.cell (World.block_lt_of_cell? w _ hx378_4)).trans hx378_4
         replace p378 := eq_true p378
         replace q378 := eq_true q378
         go_wp2_with (first | ((with_reducible refine gate_callee (f := 38) rfl ?_); refine sh_call (some 25) Tryd.func38 #[.agg #[.int .u8 ((rd_T44 l0 a1).f0), .int .u8 ((rd_T44 l0 a1).f1), .int .u8 ((rd_T44 l0 a1).f2), .int .i16 ((rd_T44 l0 a1).f3), .int .i32 ((rd_T44 l0 a1).f4)]] ?_; (with_reducible refine (stockaderef02_Of.calls kj3 ((rd_T44 l0 a1).f0) ((rd_T44 l0 a1).f1) ((rd_T44 l0 a1).f2) ((rd_T44 l0 a1).f3) ((rd_T44 l0 a1).f4) t379 t380 t381 t382 t383 t384 _ A14.out).mono ?_); rintro e w21 ⟨rfl, hb⟩; refine ⟨_, rfl, ?_⟩; replace HB := sh_b (w := w) hb; (try clear hb); (try clear hb2); (try clear hk); (try clear hi)) | ((with_reducible refine gate_dst (N := 7) rfl ?_); refine sh_box 7 #[.int .i64 0, .int .i64 0, .int .i64 0, .bool false, .bool false] 69 ?_; intro gb385 hg w22 hbox hb; have GW385 := sh_z (w := w) hg; have GE385 := sh_z (w := w) hg; replace HB := sh_b (w := w) hb; have BK385 := Aside0.mk (hbox); clear hb hbox hg; have hcz23 := blk_all5 BK385.out; have p386 : 0 ≤ (a1 : Int) := of_decide_eq_true (by first | (with_reducible assumption) | assumption); have q386 : a1 < (l0.length : Int) := of_decide_eq_true (by first | (with_reducible assumption) | assumption); obtain ⟨ad386, e386, hx386_0, hx386_1, hx386_2, hx386_3, hx386_4⟩ := at_T44 HR0.out a1 p386 q386; obtain rfl : ad378 = ad386 := (by injection e386); have hn386_0 : ad378.block ≠ gb385 := ne_new hx386_0 GW385.out; have hn386_1 : ad378.block ≠ gb385 := ne_new hx386_0 GW385.out; have hn386_2 : ad378.block ≠ gb385 := ne_new hx386_0 GW385.out; have hn386_3 : ad378.block ≠ gb385 := ne_new hx386_0 GW385.out; have hn386_4 : ad378.block ≠ gb385 := ne_new hx386_0 GW385.out; replace hx386_0 := (HB.out.cell (World.block_lt_of_cell? w _ hx386_0)).trans hx386_0; replace hx386_1 := (HB.out.cell (World.block_lt_of_cell? w _ hx386_1)).trans hx386_1; replace hx386_2 := (HB.out.cell (World.block_lt_of_cell? w _ hx386_2)).trans hx386_2; replace hx386_3 := (HB.out.cell (World.block_lt_of_cell? w _ hx386_3)).trans hx386_3; replace hx386_4 := (HB.out.cell (World.block_lt_of_cell? w _ hx386_4)).trans hx386_4; replace hx386_0 := (cell_far (p := ⟨gb385, 0, none⟩) (ne_far hn386_0) (.int .i64 t379)).trans hx386_0; replace hx386_1 := (cell_far (p := ⟨gb385, 0, none⟩) (ne_far hn386_0) (.int .i64 t379)).trans hx386_1; replace hx386_2 := (cell_far (p := ⟨gb385, 0, none⟩) (ne_far hn386_0) (.int .i64 t379)).trans hx386_2; replace hx386_3 := (cell_far (p := ⟨gb385, 0, none⟩) (ne_far hn386_0) (.int .i64 t379)).trans hx386_3; replace hx386_4 := (cell_far (p := ⟨gb385, 0, none⟩) (ne_far hn386_0) (.int .i64 t379)).trans hx386_4; replace hx386_0 := (cell_far (p := ⟨gb385, 1, none⟩) (ne_far hn386_1) (.int .i64 t380)).trans hx386_0; replace hx386_1 := (cell_far (p := ⟨gb385, 1, none⟩) (ne_far hn386_1) (.int .i64 t380)).trans hx386_1; replace hx386_2 := (cell_far (p := ⟨gb385, 1, none⟩) (ne_far hn386_1) (.int .i64 t380)).trans hx386_2; replace hx386_3 := (cell_far (p := ⟨gb385, 1, none⟩) (ne_far hn386_1) (.int .i64 t380)).trans hx386_3; replace hx386_4 := (cell_far (p := ⟨gb385, 1, none⟩) (ne_far hn386_1) (.int .i64 t380)).trans hx386_4; replace hx386_0 := (cell_far (p := ⟨gb385, 2, none⟩) (ne_far hn386_2) (.int .i64 t381)).trans hx386_0; replace hx386_1 := (cell_far (p := ⟨gb385, 2, none⟩) (ne_far hn386_2) (.int .i64 t381)).trans hx386_1; replace hx386_2 := (cell_far (p := ⟨gb385, 2, none⟩) (ne_far hn386_2) (.int .i64 t381)).trans hx386_2; replace hx386_3 := (cell_far (p := ⟨gb385, 2, none⟩) (ne_far hn386_2) (.int .i64 t381)).trans hx386_3; replace hx386_4 := (cell_far (p := ⟨gb385, 2, none⟩) (ne_far hn386_2) (.int .i64 t381)).trans hx386_4; replace hx386_0 := (cell_far (p := ⟨gb385, 3, none⟩) (ne_far hn386_3) (.bool t382)).trans hx386_0; replace hx386_1 := (cell_far (p := ⟨gb385, 3, none⟩) (ne_far hn386_3) (.bool t382)).trans hx386_1; replace hx386_2 := (cell_far (p := ⟨gb385, 3, none⟩) (ne_far hn386_3) (.bool t382)).trans hx386_2; replace hx386_3 := (cell_far (p := ⟨gb385, 3, none⟩) (ne_far hn386_3) (.bool t382)).trans hx386_3; replace hx386_4 := (cell_far (p := ⟨gb385, 3, none⟩) (ne_far hn386_3) (.bool t382)).trans hx386_4; replace hx386_0 := (cell_far (p := ⟨gb385, 4, none⟩) (ne_far hn386_4) (.bool t383)).trans hx386_0; replace hx386_1 := (cell_far (p := ⟨gb385, 4, none⟩) (ne_far hn386_4) (.bool t383)).trans hx386_1; replace hx386_2 := (cell_far (p := ⟨gb385, 4, none⟩) (ne_far hn386_4) (.bool t383)).trans hx386_2; replace hx386_3 := (cell_far (p := ⟨gb385, 4, none⟩) (ne_far hn386_4) (.bool t383)).trans hx386_3; replace hx386_4 := (cell_far (p := ⟨gb385, 4, none⟩) (ne_far hn386_4) (.bool t383)).trans hx386_4; clear hn386_0; clear hn386_1; clear hn386_2; clear hn386_3; clear hn386_4; replace p386 := eq_true p386; replace q386 := eq_true q386))
         go_ret
         exact ⟨ret_now, b_now⟩
        ·rw [if_neg c20] at H
         have c20b0 : (t379 == 7) = false := beq_eq_false_iff_ne.mpr c20
         have c20b1 : (t379 != 7) = true := bne_iff_ne.mpr c20
         by_cases c24 : t379 = 6
         ·rw [if_pos c24] at H
          have c24b0 : (t379 == 6) = true := beq_iff_eq.mpr c24
          have c24b1 : (t379 != 6) = false := bne_eq_false_iff_eq.mpr c24
          clear c24
          by_cases c25 : a2 = (wrap64 ((wrap64 (a1 + 1)) + (wrap64 ((rd_T44 l0 a1).f3))))
          ·rw [if_pos c25] at H
           have c25b0 : (a2 == (wrap64 ((wrap64 (a1 + 1)) + (wrap64 ((rd_T44 l0 a1).f3))))) = true := beq_iff_eq.mpr c25
           have c25b1 : (a2 != (wrap64 ((wrap64 (a1 + 1)) + (wrap64 ((rd_T44 l0 a1).f3))))) = false := bne_eq_false_iff_eq.mpr c25
           clear c25
           obtain rfl := Option.some.inj H
           have p378 : 0 ≤ (a1 : Int) := of_decide_eq_true (by first | (with_reducible assumption) | assumption)
           have q378 : a1 < (l0.length : Int) := of_decide_eq_true (by first | (with_reducible assumption) | assumption)
           obtain ⟨ad378, e378, hx378_0, hx378_1, hx378_2, hx378_3, hx378_4⟩ := at_T44 HR0.out a1 p378 q378
           cases e378
           replace hx378_0 := (HB.out.cell (World.block_lt_of_cell? w _ hx378_0)).trans hx378_0
           replace hx378_1 := (HB.out.cell (World.block_lt_of_cell? w _ hx378_1)).trans hx378_1
           replace hx378_2 := (HB.out.cell (World.block_lt_of_cell? w _ hx378_2)).trans hx378_2
           replace hx378_3 := (HB.out.cell (World.block_lt_of_cell? w _ hx378_3)).trans hx378_3
           replace hx378_4 := (HB.out.cell (World.block_lt_of_cell? w _ hx378_4)).trans hx378_4
           replace p378 := eq_true p378
           replace q378 := eq_true q378
           go_wp2_with (first | ((with_reducible refine gate_callee (f := 38) rfl ?_); refine sh_call (some 25) Tryd.func38 #[.agg #[.int .u8 ((rd_T44 l0 a1).f0), .int .u8 ((rd_T44 l0 a1).f1), .int .u8 ((rd_T44 l0 a1).f2), .int .i16 ((rd_T44 l0 a1).f3), .int .i32 ((rd_T44 l0 a1).f4)]] ?_; (with_reducible refine (stockaderef02_Of.calls kj3 ((rd_T44 l0 a1).f0) ((rd_T44 l0 a1).f1) ((rd_T44 l0 a1).f2) ((rd_T44 l0 a1).f3) ((rd_T44 l0 a1).f4) t379 t380 t381 t382 t383 t384 _ A14.out).mono ?_); rintro e w26 ⟨rfl, hb⟩; refine ⟨_, rfl, ?_⟩; replace HB := sh_b (w := w) hb; (try clear hb); (try clear hb2); (try clear hk); (try clear hi)) | ((with_reducible refine gate_dst (N := 7) rfl ?_); refine sh_box 7 #[.int .i64 0, .int .i64 0, .int .i64 0, .bool false, .bool false] 69 ?_; intro gb385 hg w27 hbox hb; have GW385 := sh_z (w := w) hg; have GE385 := sh_z (w := w) hg; replace HB := sh_b (w := w) hb; have BK385 := Aside0.mk (hbox); clear hb hbox hg; have hcz28 := blk_all5 BK385.out; have p386 : 0 ≤ (a1 : Int) := of_decide_eq_true (by first | (with_reducible assumption) | assumption); have q386 : a1 < (l0.length : Int) := of_decide_eq_true (by first | (with_reducible assumption) | assumption); obtain ⟨ad386, e386, hx386_0, hx386_1, hx386_2, hx386_3, hx386_4⟩ := at_T44 HR0.out a1 p386 q386; obtain rfl : ad378 = ad386 := (by injection e386); have hn386_0 : ad378.block ≠ gb385 := ne_new hx386_0 GW385.out; have hn386_1 : ad378.block ≠ gb385 := ne_new hx386_0 GW385.out; have hn386_2 : ad378.block ≠ gb385 := ne_new hx386_0 GW385.out; have hn386_3 : ad378.block ≠ gb385 := ne_new hx386_0 GW385.out; have hn386_4 : ad378.block ≠ gb385 := ne_new hx386_0 GW385.out; replace hx386_0 := (HB.out.cell (World.block_lt_of_cell? w _ hx386_0)).trans hx386_0; replace hx386_1 := (HB.out.cell (World.block_lt_of_cell? w _ hx386_1)).trans hx386_1; replace hx386_2 := (HB.out.cell (World.block_lt_of_cell? w _ hx386_2)).trans hx386_2; replace hx386_3 := (HB.out.cell (World.block_lt_of_cell? w _ hx386_3)).trans hx386_3; replace hx386_4 := (HB.out.cell (World.block_lt_of_cell? w _ hx386_4)).trans hx386_4; replace hx386_0 := (cell_far (p := ⟨gb385, 0, none⟩) (ne_far hn386_0) (.int .i64 t379)).trans hx386_0; replace hx386_1 := (cell_far (p := ⟨gb385, 0, none⟩) (ne_far hn386_0) (.int .i64 t379)).trans hx386_1; replace hx386_2 := (cell_far (p := ⟨gb385, 0, none⟩) (ne_far hn386_0) (.int .i64 t379)).trans hx386_2; replace hx386_3 := (cell_far (p := ⟨gb385, 0, none⟩) (ne_far hn386_0) (.int .i64 t379)).trans hx386_3; replace hx386_4 := (cell_far (p := ⟨gb385, 0, none⟩) (ne_far hn386_0) (.int .i64 t379)).trans hx386_4; replace hx386_0 := (cell_far (p := ⟨gb385, 1, none⟩) (ne_far hn386_1) (.int .i64 t380)).trans hx386_0; replace hx386_1 := (cell_far (p := ⟨gb385, 1, none⟩) (ne_far hn386_1) (.int .i64 t380)).trans hx386_1; replace hx386_2 := (cell_far (p := ⟨gb385, 1, none⟩) (ne_far hn386_1) (.int .i64 t380)).trans hx386_2; replace hx386_3 := (cell_far (p := ⟨gb385, 1, none⟩) (ne_far hn386_1) (.int .i64 t380)).trans hx386_3; replace hx386_4 := (cell_far (p := ⟨gb385, 1, none⟩) (ne_far hn386_1) (.int .i64 t380)).trans hx386_4; replace hx386_0 := (cell_far (p := ⟨gb385, 2, none⟩) (ne_far hn386_2) (.int .i64 t381)).trans hx386_0; replace hx386_1 := (cell_far (p := ⟨gb385, 2, none⟩) (ne_far hn386_2) (.int .i64 t381)).trans hx386_1; replace hx386_2 := (cell_far (p := ⟨gb385, 2, none⟩) (ne_far hn386_2) (.int .i64 t381)).trans hx386_2; replace hx386_3 := (cell_far (p := ⟨gb385, 2, none⟩) (ne_far hn386_2) (.int .i64 t381)).trans hx386_3; replace hx386_4 := (cell_far (p := ⟨gb385, 2, none⟩) (ne_far hn386_2) (.int .i64 t381)).trans hx386_4; replace hx386_0 := (cell_far (p := ⟨gb385, 3, none⟩) (ne_far hn386_3) (.bool t382)).trans hx386_0; replace hx386_1 := (cell_far (p := ⟨gb385, 3, none⟩) (ne_far hn386_3) (.bool t382)).trans hx386_1; replace hx386_2 := (cell_far (p := ⟨gb385, 3, none⟩) (ne_far hn386_3) (.bool t382)).trans hx386_2; replace hx386_3 := (cell_far (p := ⟨gb385, 3, none⟩) (ne_far hn386_3) (.bool t382)).trans hx386_3; replace hx386_4 := (cell_far (p := ⟨gb385, 3, none⟩) (ne_far hn386_3) (.bool t382)).trans hx386_4; replace hx386_0 := (cell_far (p := ⟨gb385, 4, none⟩) (ne_far hn386_4) (.bool t383)).trans hx386_0; replace hx386_1 := (cell_far (p := ⟨gb385, 4, none⟩) (ne_far hn386_4) (.bool t383)).trans hx386_1; replace hx386_2 := (cell_far (p := ⟨gb385, 4, none⟩) (ne_far hn386_4) (.bool t383)).trans hx386_2; replace hx386_3 := (cell_far (p := ⟨gb385, 4, none⟩) (ne_far hn386_4) (.bool t383)).trans hx386_3; replace hx386_4 := (cell_far (p := ⟨gb385, 4, none⟩) (ne_far hn386_4) (.bool t383)).trans hx386_4; clear hn386_0; clear hn386_1; clear hn386_2; clear hn386_3; clear hn386_4; replace p386 := eq_true p386; replace q386 := eq_true q386))
           go_ret
           exact ⟨ret_now, b_now⟩
          ·rw [if_neg c25] at H
           have c25b0 : (a2 == (wrap64 ((wrap64 (a1 + 1)) + (wrap64 ((rd_T44 l0 a1).f3))))) = false := beq_eq_false_iff_ne.mpr c25
           have c25b1 : (a2 != (wrap64 ((wrap64 (a1 + 1)) + (wrap64 ((rd_T44 l0 a1).f3))))) = true := bne_iff_ne.mpr c25
           obtain rfl := Option.some.inj H
           have p378 : 0 ≤ (a1 : Int) := of_decide_eq_true (by first | (with_reducible assumption) | assumption)
           have q378 : a1 < (l0.length : Int) := of_decide_eq_true (by first | (with_reducible assumption) | assumption)
           obtain ⟨ad378, e378, hx378_0, hx378_1, hx378_2, hx378_3, hx378_4⟩ := at_T44 HR0.out a1 p378 q378
           cases e378
           replace hx378_0 := (HB.out.cell (World.block_lt_of_cell? w _ hx378_0)).trans hx378_0
           replace hx378_1 := (HB.out.cell (World.block_lt_of_cell? w _ hx378_1)).trans hx378_1
           replace hx378_2 := (HB.out.cell (World.block_lt_of_cell? w _ hx378_2)).trans hx378_2
           replace hx378_3 := (HB.out.cell (World.block_lt_of_cell? w _ hx378_3)).trans hx378_3
           replace hx378_4 := (HB.out.cell (World.block_lt_of_cell? w _ hx378_4)).trans hx378_4
           replace p378 := eq_true p378
           replace q378 := eq_true q378
           go_wp2_with (first | ((with_reducible refine gate_callee (f := 38) rfl ?_); refine sh_call (some 25) Tryd.func38 #[.agg #[.int .u8 ((rd_T44 l0 a1).f0), .int .u8 ((rd_T44 l0 a1).f1), .int .u8 ((rd_T44 l0 a1).f2), .int .i16 ((rd_T44 l0 a1).f3), .int .i32 ((rd_T44 l0 a1).f4)]] ?_; (with_reducible refine (stockaderef02_Of.calls kj3 ((rd_T44 l0 a1).f0) ((rd_T44 l0 a1).f1) ((rd_T44 l0 a1).f2) ((rd_T44 l0 a1).f3) ((rd_T44 l0 a1).f4) t379 t380 t381 t382 t383 t384 _ A14.out).mono ?_); rintro e w29 ⟨rfl, hb⟩; refine ⟨_, rfl, ?_⟩; replace HB := sh_b (w := w) hb; (try clear hb); (try clear hb2); (try clear hk); (try clear hi)) | ((with_reducible refine gate_dst (N := 7) rfl ?_); refine sh_box 7 #[.int .i64 0, .int .i64 0, .int .i64 0, .bool false, .bool false] 69 ?_; intro gb385 hg w30 hbox hb; have GW385 := sh_z (w := w) hg; have GE385 := sh_z (w := w) hg; replace HB := sh_b (w := w) hb; have BK385 := Aside0.mk (hbox); clear hb hbox hg; have hcz31 := blk_all5 BK385.out; have p386 : 0 ≤ (a1 : Int) := of_decide_eq_true (by first | (with_reducible assumption) | assumption); have q386 : a1 < (l0.length : Int) := of_decide_eq_true (by first | (with_reducible assumption) | assumption); obtain ⟨ad386, e386, hx386_0, hx386_1, hx386_2, hx386_3, hx386_4⟩ := at_T44 HR0.out a1 p386 q386; obtain rfl : ad378 = ad386 := (by injection e386); have hn386_0 : ad378.block ≠ gb385 := ne_new hx386_0 GW385.out; have hn386_1 : ad378.block ≠ gb385 := ne_new hx386_0 GW385.out; have hn386_2 : ad378.block ≠ gb385 := ne_new hx386_0 GW385.out; have hn386_3 : ad378.block ≠ gb385 := ne_new hx386_0 GW385.out; have hn386_4 : ad378.block ≠ gb385 := ne_new hx386_0 GW385.out; replace hx386_0 := (HB.out.cell (World.block_lt_of_cell? w _ hx386_0)).trans hx386_0; replace hx386_1 := (HB.out.cell (World.block_lt_of_cell? w _ hx386_1)).trans hx386_1; replace hx386_2 := (HB.out.cell (World.block_lt_of_cell? w _ hx386_2)).trans hx386_2; replace hx386_3 := (HB.out.cell (World.block_lt_of_cell? w _ hx386_3)).trans hx386_3; replace hx386_4 := (HB.out.cell (World.block_lt_of_cell? w _ hx386_4)).trans hx386_4; replace hx386_0 := (cell_far (p := ⟨gb385, 0, none⟩) (ne_far hn386_0) (.int .i64 t379)).trans hx386_0; replace hx386_1 := (cell_far (p := ⟨gb385, 0, none⟩) (ne_far hn386_0) (.int .i64 t379)).trans hx386_1; replace hx386_2 := (cell_far (p := ⟨gb385, 0, none⟩) (ne_far hn386_0) (.int .i64 t379)).trans hx386_2; replace hx386_3 := (cell_far (p := ⟨gb385, 0, none⟩) (ne_far hn386_0) (.int .i64 t379)).trans hx386_3; replace hx386_4 := (cell_far (p := ⟨gb385, 0, none⟩) (ne_far hn386_0) (.int .i64 t379)).trans hx386_4; replace hx386_0 := (cell_far (p := ⟨gb385, 1, none⟩) (ne_far hn386_1) (.int .i64 t380)).trans hx386_0; replace hx386_1 := (cell_far (p := ⟨gb385, 1, none⟩) (ne_far hn386_1) (.int .i64 t380)).trans hx386_1; replace hx386_2 := (cell_far (p := ⟨gb385, 1, none⟩) (ne_far hn386_1) (.int .i64 t380)).trans hx386_2; replace hx386_3 := (cell_far (p := ⟨gb385, 1, none⟩) (ne_far hn386_1) (.int .i64 t380)).trans hx386_3; replace hx386_4 := (cell_far (p := ⟨gb385, 1, none⟩) (ne_far hn386_1) (.int .i64 t380)).trans hx386_4; replace hx386_0 := (cell_far (p := ⟨gb385, 2, none⟩) (ne_far hn386_2) (.int .i64 t381)).trans hx386_0; replace hx386_1 := (cell_far (p := ⟨gb385, 2, none⟩) (ne_far hn386_2) (.int .i64 t381)).trans hx386_1; replace hx386_2 := (cell_far (p := ⟨gb385, 2, none⟩) (ne_far hn386_2) (.int .i64 t381)).trans hx386_2; replace hx386_3 := (cell_far (p := ⟨gb385, 2, none⟩) (ne_far hn386_2) (.int .i64 t381)).trans hx386_3; replace hx386_4 := (cell_far (p := ⟨gb385, 2, none⟩) (ne_far hn386_2) (.int .i64 t381)).trans hx386_4; replace hx386_0 := (cell_far (p := ⟨gb385, 3, none⟩) (ne_far hn386_3) (.bool t382)).trans hx386_0; replace hx386_1 := (cell_far (p := ⟨gb385, 3, none⟩) (ne_far hn386_3) (.bool t382)).trans hx386_1; replace hx386_2 := (cell_far (p := ⟨gb385, 3, none⟩) (ne_far hn386_3) (.bool t382)).trans hx386_2; replace hx386_3 := (cell_far (p := ⟨gb385, 3, none⟩) (ne_far hn386_3) (.bool t382)).trans hx386_3; replace hx386_4 := (cell_far (p := ⟨gb385, 3, none⟩) (ne_far hn386_3) (.bool t382)).trans hx386_4; replace hx386_0 := (cell_far (p := ⟨gb385, 4, none⟩) (ne_far hn386_4) (.bool t383)).trans hx386_0; replace hx386_1 := (cell_far (p := ⟨gb385, 4, none⟩) (ne_far hn386_4) (.bool t383)).trans hx386_1; replace hx386_2 := (cell_far (p := ⟨gb385, 4, none⟩) (ne_far hn386_4) (.bool t383)).trans hx386_2; replace hx386_3 := (cell_far (p := ⟨gb385, 4, none⟩) (ne_far hn386_4) (.bool t383)).trans hx386_3; replace hx386_4 := (cell_far (p := ⟨gb385, 4, none⟩) (ne_far hn386_4) (.bool t383)).trans hx386_4; clear hn386_0; clear hn386_1; clear hn386_2; clear hn386_3; clear hn386_4; replace p386 := eq_true p386; replace q386 := eq_true q386))
           go_ret
           exact ⟨ret_now, b_now⟩
         ·rw [if_neg c24] at H
          have c24b0 : (t379 == 6) = false := beq_eq_false_iff_ne.mpr c24
          have c24b1 : (t379 != 6) = true := bne_iff_ne.mpr c24
          by_cases c32 : t379 = 10
          ·rw [if_pos c32] at H
           have c32b0 : (t379 == 10) = true := beq_iff_eq.mpr c32
           have c32b1 : (t379 != 10) = false := bne_eq_false_iff_eq.mpr c32
           clear c32
           obtain rfl := Option.some.inj H
           have p378 : 0 ≤ (a1 : Int) := of_decide_eq_true (by first | (with_reducible assumption) | assumption)
           have q378 : a1 < (l0.length : Int) := of_decide_eq_true (by first | (with_reducible assumption) | assumption)
           obtain ⟨ad378, e378, hx378_0, hx378_1, hx378_2, hx378_3, hx378_4⟩ := at_T44 HR0.out a1 p378 q378
           cases e378
           replace hx378_0 := (HB.out.cell (World.block_lt_of_cell? w _ hx378_0)).trans hx378_0
           replace hx378_1 := (HB.out.cell (World.block_lt_of_cell? w _ hx378_1)).trans hx378_1
           replace hx378_2 := (HB.out.cell (World.block_lt_of_cell? w _ hx378_2)).trans hx378_2
           replace hx378_3 := (HB.out.cell (World.block_lt_of_cell? w _ hx378_3)).trans hx378_3
           replace hx378_4 := (HB.out.cell (World.block_lt_of_cell? w _ hx378_4)).trans hx378_4
           replace p378 := eq_true p378
           replace q378 := eq_true q378
           go_wp2_with (first | ((with_reducible refine gate_callee (f := 38) rfl ?_); refine sh_call (some 25) Tryd.func38 #[.agg #[.int .u8 ((rd_T44 l0 a1).f0), .int .u8 ((rd_T44 l0 a1).f1), .int .u8 ((rd_T44 l0 a1).f2), .int .i16 ((rd_T44 l0 a1).f3), .int .i32 ((rd_T44 l0 a1).f4)]] ?_; (with_reducible refine (stockaderef02_Of.calls kj3 ((rd_T44 l0 a1).f0) ((rd_T44 l0 a1).f1) ((rd_T44 l0 a1).f2) ((rd_T44 l0 a1).f3) ((rd_T44 l0 a1).f4) t379 t380 t381 t382 t383 t384 _ A14.out).mono ?_); rintro e w33 ⟨rfl, hb⟩; refine ⟨_, rfl, ?_⟩; replace HB := sh_b (w := w) hb; (try clear hb); (try clear hb2); (try clear hk); (try clear hi)) | ((with_reducible refine gate_dst (N := 7) rfl ?_); refine sh_box 7 #[.int .i64 0, .int .i64 0, .int .i64 0, .bool false, .bool false] 69 ?_; intro gb385 hg w34 hbox hb; have GW385 := sh_z (w := w) hg; have GE385 := sh_z (w := w) hg; replace HB := sh_b (w := w) hb; have BK385 := Aside0.mk (hbox); clear hb hbox hg; have hcz35 := blk_all5 BK385.out; have p386 : 0 ≤ (a1 : Int) := of_decide_eq_true (by first | (with_reducible assumption) | assumption); have q386 : a1 < (l0.length : Int) := of_decide_eq_true (by first | (with_reducible assumption) | assumption); obtain ⟨ad386, e386, hx386_0, hx386_1, hx386_2, hx386_3, hx386_4⟩ := at_T44 HR0.out a1 p386 q386; obtain rfl : ad378 = ad386 := (by injection e386); have hn386_0 : ad378.block ≠ gb385 := ne_new hx386_0 GW385.out; have hn386_1 : ad378.block ≠ gb385 := ne_new hx386_0 GW385.out; have hn386_2 : ad378.block ≠ gb385 := ne_new hx386_0 GW385.out; have hn386_3 : ad378.block ≠ gb385 := ne_new hx386_0 GW385.out; have hn386_4 : ad378.block ≠ gb385 := ne_new hx386_0 GW385.out; replace hx386_0 := (HB.out.cell (World.block_lt_of_cell? w _ hx386_0)).trans hx386_0; replace hx386_1 := (HB.out.cell (World.block_lt_of_cell? w _ hx386_1)).trans hx386_1; replace hx386_2 := (HB.out.cell (World.block_lt_of_cell? w _ hx386_2)).trans hx386_2; replace hx386_3 := (HB.out.cell (World.block_lt_of_cell? w _ hx386_3)).trans hx386_3; replace hx386_4 := (HB.out.cell (World.block_lt_of_cell? w _ hx386_4)).trans hx386_4; replace hx386_0 := (cell_far (p := ⟨gb385, 0, none⟩) (ne_far hn386_0) (.int .i64 t379)).trans hx386_0; replace hx386_1 := (cell_far (p := ⟨gb385, 0, none⟩) (ne_far hn386_0) (.int .i64 t379)).trans hx386_1; replace hx386_2 := (cell_far (p := ⟨gb385, 0, none⟩) (ne_far hn386_0) (.int .i64 t379)).trans hx386_2; replace hx386_3 := (cell_far (p := ⟨gb385, 0, none⟩) (ne_far hn386_0) (.int .i64 t379)).trans hx386_3; replace hx386_4 := (cell_far (p := ⟨gb385, 0, none⟩) (ne_far hn386_0) (.int .i64 t379)).trans hx386_4; replace hx386_0 := (cell_far (p := ⟨gb385, 1, none⟩) (ne_far hn386_1) (.int .i64 t380)).trans hx386_0; replace hx386_1 := (cell_far (p := ⟨gb385, 1, none⟩) (ne_far hn386_1) (.int .i64 t380)).trans hx386_1; replace hx386_2 := (cell_far (p := ⟨gb385, 1, none⟩) (ne_far hn386_1) (.int .i64 t380)).trans hx386_2; replace hx386_3 := (cell_far (p := ⟨gb385, 1, none⟩) (ne_far hn386_1) (.int .i64 t380)).trans hx386_3; replace hx386_4 := (cell_far (p := ⟨gb385, 1, none⟩) (ne_far hn386_1) (.int .i64 t380)).trans hx386_4; replace hx386_0 := (cell_far (p := ⟨gb385, 2, none⟩) (ne_far hn386_2) (.int .i64 t381)).trans hx386_0; replace hx386_1 := (cell_far (p := ⟨gb385, 2, none⟩) (ne_far hn386_2) (.int .i64 t381)).trans hx386_1; replace hx386_2 := (cell_far (p := ⟨gb385, 2, none⟩) (ne_far hn386_2) (.int .i64 t381)).trans hx386_2; replace hx386_3 := (cell_far (p := ⟨gb385, 2, none⟩) (ne_far hn386_2) (.int .i64 t381)).trans hx386_3; replace hx386_4 := (cell_far (p := ⟨gb385, 2, none⟩) (ne_far hn386_2) (.int .i64 t381)).trans hx386_4; replace hx386_0 := (cell_far (p := ⟨gb385, 3, none⟩) (ne_far hn386_3) (.bool t382)).trans hx386_0; replace hx386_1 := (cell_far (p := ⟨gb385, 3, none⟩) (ne_far hn386_3) (.bool t382)).trans hx386_1; replace hx386_2 := (cell_far (p := ⟨gb385, 3, none⟩) (ne_far hn386_3) (.bool t382)).trans hx386_2; replace hx386_3 := (cell_far (p := ⟨gb385, 3, none⟩) (ne_far hn386_3) (.bool t382)).trans hx386_3; replace hx386_4 := (cell_far (p := ⟨gb385, 3, none⟩) (ne_far hn386_3) (.bool t382)).trans hx386_4; replace hx386_0 := (cell_far (p := ⟨gb385, 4, none⟩) (ne_far hn386_4) (.bool t383)).trans hx386_0; replace hx386_1 := (cell_far (p := ⟨gb385, 4, none⟩) (ne_far hn386_4) (.bool t383)).trans hx386_1; replace hx386_2 := (cell_far (p := ⟨gb385, 4, none⟩) (ne_far hn386_4) (.bool t383)).trans hx386_2; replace hx386_3 := (cell_far (p := ⟨gb385, 4, none⟩) (ne_far hn386_4) (.bool t383)).trans hx386_3; replace hx386_4 := (cell_far (p := ⟨gb385, 4, none⟩) (ne_far hn386_4) (.bool t383)).trans hx386_4; clear hn386_0; clear hn386_1; clear hn386_2; clear hn386_3; clear hn386_4; replace p386 := eq_true p386; replace q386 := eq_true q386))
           go_ret
           exact ⟨ret_now, b_now⟩
          ·rw [if_neg c32] at H
           have c32b0 : (t379 == 10) = false := beq_eq_false_iff_ne.mpr c32
           have c32b1 : (t379 != 10) = true := bne_iff_ne.mpr c32
           by_cases c36 : t379 = 11
           ·rw [if_pos c36] at H
            have c36b0 : (t379 == 11) = true := beq_iff_eq.mpr c36
            have c36b1 : (t379 != 11) = false := bne_eq_false_iff_eq.mpr c36
            clear c36
            obtain rfl := Option.some.inj H
            have p378 : 0 ≤ (a1 : Int) := of_decide_eq_true (by first | (with_reducible assumption) | assumption)
            have q378 : a1 < (l0.length : Int) := of_decide_eq_true (by first | (with_reducible assumption) | assumption)
            obtain ⟨ad378, e378, hx378_0, hx378_1, hx378_2, hx378_3, hx378_4⟩ := at_T44 HR0.out a1 p378 q378
            cases e378
            replace hx378_0 := (HB.out.cell (World.block_lt_of_cell? w _ hx378_0)).trans hx378_0
            replace hx378_1 := (HB.out.cell (World.block_lt_of_cell? w _ hx378_1)).trans hx378_1
            replace hx378_2 := (HB.out.cell (World.block_lt_of_cell? w _ hx378_2)).trans hx378_2
            replace hx378_3 := (HB.out.cell (World.block_lt_of_cell? w _ hx378_3)).trans hx378_3
            replace hx378_4 := (HB.out.cell (World.block_lt_of_cell? w _ hx378_4)).trans hx378_4
            replace p378 := eq_true p378
            replace q378 := eq_true q378
            go_wp2_with (first | ((with_reducible refine gate_callee (f := 38) rfl ?_); refine sh_call (some 25) Tryd.func38 #[.agg #[.int .u8 ((rd_T44 l0 a1).f0), .int .u8 ((rd_T44 l0 a1).f1), .int .u8 ((rd_T44 l0 a1).f2), .int .i16 ((rd_T44 l0 a1).f3), .int .i32 ((rd_T44 l0 a1).f4)]] ?_; (with_reducible refine (stockaderef02_Of.calls kj3 ((rd_T44 l0 a1).f0) ((rd_T44 l0 a1).f1) ((rd_T44 l0 a1).f2) ((rd_T44 l0 a1).f3) ((rd_T44 l0 a1).f4) t379 t380 t381 t382 t383 t384 _ A14.out).mono ?_); rintro e w37 ⟨rfl, hb⟩; refine ⟨_, rfl, ?_⟩; replace HB := sh_b (w := w) hb; (try clear hb); (try clear hb2); (try clear hk); (try clear hi)) | ((with_reducible refine gate_dst (N := 7) rfl ?_); refine sh_box 7 #[.int .i64 0, .int .i64 0, .int .i64 0, .bool false, .bool false] 69 ?_; intro gb385 hg w38 hbox hb; have GW385 := sh_z (w := w) hg; have GE385 := sh_z (w := w) hg; replace HB := sh_b (w := w) hb; have BK385 := Aside0.mk (hbox); clear hb hbox hg; have hcz39 := blk_all5 BK385.out; have p386 : 0 ≤ (a1 : Int) := of_decide_eq_true (by first | (with_reducible assumption) | assumption); have q386 : a1 < (l0.length : Int) := of_decide_eq_true (by first | (with_reducible assumption) | assumption); obtain ⟨ad386, e386, hx386_0, hx386_1, hx386_2, hx386_3, hx386_4⟩ := at_T44 HR0.out a1 p386 q386; obtain rfl : ad378 = ad386 := (by injection e386); have hn386_0 : ad378.block ≠ gb385 := ne_new hx386_0 GW385.out; have hn386_1 : ad378.block ≠ gb385 := ne_new hx386_0 GW385.out; have hn386_2 : ad378.block ≠ gb385 := ne_new hx386_0 GW385.out; have hn386_3 : ad378.block ≠ gb385 := ne_new hx386_0 GW385.out; have hn386_4 : ad378.block ≠ gb385 := ne_new hx386_0 GW385.out; replace hx386_0 := (HB.out.cell (World.block_lt_of_cell? w _ hx386_0)).trans hx386_0; replace hx386_1 := (HB.out.cell (World.block_lt_of_cell? w _ hx386_1)).trans hx386_1; replace hx386_2 := (HB.out.cell (World.block_lt_of_cell? w _ hx386_2)).trans hx386_2; replace hx386_3 := (HB.out.cell (World.block_lt_of_cell? w _ hx386_3)).trans hx386_3; replace hx386_4 := (HB.out.cell (World.block_lt_of_cell? w _ hx386_4)).trans hx386_4; replace hx386_0 := (cell_far (p := ⟨gb385, 0, none⟩) (ne_far hn386_0) (.int .i64 t379)).trans hx386_0; replace hx386_1 := (cell_far (p := ⟨gb385, 0, none⟩) (ne_far hn386_0) (.int .i64 t379)).trans hx386_1; replace hx386_2 := (cell_far (p := ⟨gb385, 0, none⟩) (ne_far hn386_0) (.int .i64 t379)).trans hx386_2; replace hx386_3 := (cell_far (p := ⟨gb385, 0, none⟩) (ne_far hn386_0) (.int .i64 t379)).trans hx386_3; replace hx386_4 := (cell_far (p := ⟨gb385, 0, none⟩) (ne_far hn386_0) (.int .i64 t379)).trans hx386_4; replace hx386_0 := (cell_far (p := ⟨gb385, 1, none⟩) (ne_far hn386_1) (.int .i64 t380)).trans hx386_0; replace hx386_1 := (cell_far (p := ⟨gb385, 1, none⟩) (ne_far hn386_1) (.int .i64 t380)).trans hx386_1; replace hx386_2 := (cell_far (p := ⟨gb385, 1, none⟩) (ne_far hn386_1) (.int .i64 t380)).trans hx386_2; replace hx386_3 := (cell_far (p := ⟨gb385, 1, none⟩) (ne_far hn386_1) (.int .i64 t380)).trans hx386_3; replace hx386_4 := (cell_far (p := ⟨gb385, 1, none⟩) (ne_far hn386_1) (.int .i64 t380)).trans hx386_4; replace hx386_0 := (cell_far (p := ⟨gb385, 2, none⟩) (ne_far hn386_2) (.int .i64 t381)).trans hx386_0; replace hx386_1 := (cell_far (p := ⟨gb385, 2, none⟩) (ne_far hn386_2) (.int .i64 t381)).trans hx386_1; replace hx386_2 := (cell_far (p := ⟨gb385, 2, none⟩) (ne_far hn386_2) (.int .i64 t381)).trans hx386_2; replace hx386_3 := (cell_far (p := ⟨gb385, 2, none⟩) (ne_far hn386_2) (.int .i64 t381)).trans hx386_3; replace hx386_4 := (cell_far (p := ⟨gb385, 2, none⟩) (ne_far hn386_2) (.int .i64 t381)).trans hx386_4; replace hx386_0 := (cell_far (p := ⟨gb385, 3, none⟩) (ne_far hn386_3) (.bool t382)).trans hx386_0; replace hx386_1 := (cell_far (p := ⟨gb385, 3, none⟩) (ne_far hn386_3) (.bool t382)).trans hx386_1; replace hx386_2 := (cell_far (p := ⟨gb385, 3, none⟩) (ne_far hn386_3) (.bool t382)).trans hx386_2; replace hx386_3 := (cell_far (p := ⟨gb385, 3, none⟩) (ne_far hn386_3) (.bool t382)).trans hx386_3; replace hx386_4 := (cell_far (p := ⟨gb385, 3, none⟩) (ne_far hn386_3) (.bool t382)).trans hx386_4; replace hx386_0 := (cell_far (p := ⟨gb385, 4, none⟩) (ne_far hn386_4) (.bool t383)).trans hx386_0; replace hx386_1 := (cell_far (p := ⟨gb385, 4, none⟩) (ne_far hn386_4) (.bool t383)).trans hx386_1; replace hx386_2 := (cell_far (p := ⟨gb385, 4, none⟩) (ne_far hn386_4) (.bool t383)).trans hx386_2; replace hx386_3 := (cell_far (p := ⟨gb385, 4, none⟩) (ne_far hn386_4) (.bool t383)).trans hx386_3; replace hx386_4 := (cell_far (p := ⟨gb385, 4, none⟩) (ne_far hn386_4) (.bool t383)).trans hx386_4; clear hn386_0; clear hn386_1; clear hn386_2; clear hn386_3; clear hn386_4; replace p386 := eq_true p386; replace q386 := eq_true q386))
            go_ret
            exact ⟨ret_now, b_now⟩
           ·rw [if_neg c36] at H
            have c36b0 : (t379 == 11) = false := beq_eq_false_iff_ne.mpr c36
            have c36b1 : (t379 != 11) = true := bne_iff_ne.mpr c36
            obtain rfl := Option.some.inj H
            have p378 : 0 ≤ (a1 : Int) := of_decide_eq_true (by first | (with_reducible assumption) | assumption)
            have q378 : a1 < (l0.length : Int) := of_decide_eq_true (by first | (with_reducible assumption) | assumption)
            obtain ⟨ad378, e378, hx378_0, hx378_1, hx378_2, hx378_3, hx378_4⟩ := at_T44 HR0.out a1 p378 q378
            cases e378
            replace hx378_0 := (HB.out.cell (World.block_lt_of_cell? w _ hx378_0)).trans hx378_0
            replace hx378_1 := (HB.out.cell (World.block_lt_of_cell? w _ hx378_1)).trans hx378_1
            replace hx378_2 := (HB.out.cell (World.block_lt_of_cell? w _ hx378_2)).trans hx378_2
            replace hx378_3 := (HB.out.cell (World.block_lt_of_cell? w _ hx378_3)).trans hx378_3
            replace hx378_4 := (HB.out.cell (World.block_lt_of_cell? w _ hx378_4)).trans hx378_4
            replace p378 := eq_true p378
            replace q378 := eq_true q378
            go_wp2_with (first | ((with_reducible refine gate_callee (f := 38) rfl ?_); refine sh_call (some 25) Tryd.func38 #[.agg #[.int .u8 ((rd_T44 l0 a1).f0), .int .u8 ((rd_T44 l0 a1).f1), .int .u8 ((rd_T44 l0 a1).f2), .int .i16 ((rd_T44 l0 a1).f3), .int .i32 ((rd_T44 l0 a1).f4)]] ?_; (with_reducible refine (stockaderef02_Of.calls kj3 ((rd_T44 l0 a1).f0) ((rd_T44 l0 a1).f1) ((rd_T44 l0 a1).f2) ((rd_T44 l0 a1).f3) ((rd_T44 l0 a1).f4) t379 t380 t381 t382 t383 t384 _ A14.out).mono ?_); rintro e w40 ⟨rfl, hb⟩; refine ⟨_, rfl, ?_⟩; replace HB := sh_b (w := w) hb; (try clear hb); (try clear hb2); (try clear hk); (try clear hi)) | ((with_reducible refine gate_dst (N := 7) rfl ?_); refine sh_box 7 #[.int .i64 0, .int .i64 0, .int .i64 0, .bool false, .bool false] 69 ?_; intro gb385 hg w41 hbox hb; have GW385 := sh_z (w := w) hg; have GE385 := sh_z (w := w) hg; replace HB := sh_b (w := w) hb; have BK385 := Aside0.mk (hbox); clear hb hbox hg; have hcz42 := blk_all5 BK385.out; have p386 : 0 ≤ (a1 : Int) := of_decide_eq_true (by first | (with_reducible assumption) | assumption); have q386 : a1 < (l0.length : Int) := of_decide_eq_true (by first | (with_reducible assumption) | assumption); obtain ⟨ad386, e386, hx386_0, hx386_1, hx386_2, hx386_3, hx386_4⟩ := at_T44 HR0.out a1 p386 q386; obtain rfl : ad378 = ad386 := (by injection e386); have hn386_0 : ad378.block ≠ gb385 := ne_new hx386_0 GW385.out; have hn386_1 : ad378.block ≠ gb385 := ne_new hx386_0 GW385.out; have hn386_2 : ad378.block ≠ gb385 := ne_new hx386_0 GW385.out; have hn386_3 : ad378.block ≠ gb385 := ne_new hx386_0 GW385.out; have hn386_4 : ad378.block ≠ gb385 := ne_new hx386_0 GW385.out; replace hx386_0 := (HB.out.cell (World.block_lt_of_cell? w _ hx386_0)).trans hx386_0; replace hx386_1 := (HB.out.cell (World.block_lt_of_cell? w _ hx386_1)).trans hx386_1; replace hx386_2 := (HB.out.cell (World.block_lt_of_cell? w _ hx386_2)).trans hx386_2; replace hx386_3 := (HB.out.cell (World.block_lt_of_cell? w _ hx386_3)).trans hx386_3; replace hx386_4 := (HB.out.cell (World.block_lt_of_cell? w _ hx386_4)).trans hx386_4; replace hx386_0 := (cell_far (p := ⟨gb385, 0, none⟩) (ne_far hn386_0) (.int .i64 t379)).trans hx386_0; replace hx386_1 := (cell_far (p := ⟨gb385, 0, none⟩) (ne_far hn386_0) (.int .i64 t379)).trans hx386_1; replace hx386_2 := (cell_far (p := ⟨gb385, 0, none⟩) (ne_far hn386_0) (.int .i64 t379)).trans hx386_2; replace hx386_3 := (cell_far (p := ⟨gb385, 0, none⟩) (ne_far hn386_0) (.int .i64 t379)).trans hx386_3; replace hx386_4 := (cell_far (p := ⟨gb385, 0, none⟩) (ne_far hn386_0) (.int .i64 t379)).trans hx386_4; replace hx386_0 := (cell_far (p := ⟨gb385, 1, none⟩) (ne_far hn386_1) (.int .i64 t380)).trans hx386_0; replace hx386_1 := (cell_far (p := ⟨gb385, 1, none⟩) (ne_far hn386_1) (.int .i64 t380)).trans hx386_1; replace hx386_2 := (cell_far (p := ⟨gb385, 1, none⟩) (ne_far hn386_1) (.int .i64 t380)).trans hx386_2; replace hx386_3 := (cell_far (p := ⟨gb385, 1, none⟩) (ne_far hn386_1) (.int .i64 t380)).trans hx386_3; replace hx386_4 := (cell_far (p := ⟨gb385, 1, none⟩) (ne_far hn386_1) (.int .i64 t380)).trans hx386_4; replace hx386_0 := (cell_far (p := ⟨gb385, 2, none⟩) (ne_far hn386_2) (.int .i64 t381)).trans hx386_0; replace hx386_1 := (cell_far (p := ⟨gb385, 2, none⟩) (ne_far hn386_2) (.int .i64 t381)).trans hx386_1; replace hx386_2 := (cell_far (p := ⟨gb385, 2, none⟩) (ne_far hn386_2) (.int .i64 t381)).trans hx386_2; replace hx386_3 := (cell_far (p := ⟨gb385, 2, none⟩) (ne_far hn386_2) (.int .i64 t381)).trans hx386_3; replace hx386_4 := (cell_far (p := ⟨gb385, 2, none⟩) (ne_far hn386_2) (.int .i64 t381)).trans hx386_4; replace hx386_0 := (cell_far (p := ⟨gb385, 3, none⟩) (ne_far hn386_3) (.bool t382)).trans hx386_0; replace hx386_1 := (cell_far (p := ⟨gb385, 3, none⟩) (ne_far hn386_3) (.bool t382)).trans hx386_1; replace hx386_2 := (cell_far (p := ⟨gb385, 3, none⟩) (ne_far hn386_3) (.bool t382)).trans hx386_2; replace hx386_3 := (cell_far (p := ⟨gb385, 3, none⟩) (ne_far hn386_3) (.bool t382)).trans hx386_3; replace hx386_4 := (cell_far (p := ⟨gb385, 3, none⟩) (ne_far hn386_3) (.bool t382)).trans hx386_4; replace hx386_0 := (cell_far (p := ⟨gb385, 4, none⟩) (ne_far hn386_4) (.bool t383)).trans hx386_0; replace hx386_1 := (cell_far (p := ⟨gb385, 4, none⟩) (ne_far hn386_4) (.bool t383)).trans hx386_1; replace hx386_2 := (cell_far (p := ⟨gb385, 4, none⟩) (ne_far hn386_4) (.bool t383)).trans hx386_2; replace hx386_3 := (cell_far (p := ⟨gb385, 4, none⟩) (ne_far hn386_4) (.bool t383)).trans hx386_3; replace hx386_4 := (cell_far (p := ⟨gb385, 4, none⟩) (ne_far hn386_4) (.bool t383)).trans hx386_4; clear hn386_0; clear hn386_1; clear hn386_2; clear hn386_3; clear hn386_4; replace p386 := eq_true p386; replace q386 := eq_true q386))
            go_ret
            exact ⟨ret_now, b_now⟩
      ·rw [if_neg c15] at H
       have c15b0 : (t384 == 0) = false := beq_eq_false_iff_ne.mpr c15
       have c15b1 : (t384 != 0) = true := bne_iff_ne.mpr c15
       obtain rfl := Option.some.inj H
       have p378 : 0 ≤ (a1 : Int) := of_decide_eq_true (by first | (with_reducible assumption) | assumption)
       have q378 : a1 < (l0.length : Int) := of_decide_eq_true (by first | (with_reducible assumption) | assumption)
       obtain ⟨ad378, e378, hx378_0, hx378_1, hx378_2, hx378_3, hx378_4⟩ := at_T44 HR0.out a1 p378 q378
       cases e378
       replace hx378_0 := (HB.out.cell (World.block_lt_of_cell? w _ hx378_0)).trans hx378_0
       replace hx378_1 := (HB.out.cell (World.block_lt_of_cell? w _ hx378_1)).trans hx378_1
       replace hx378_2 := (HB.out.cell (World.block_lt_of_cell? w _ hx378_2)).trans hx378_2
       replace hx378_3 := (HB.out.cell (World.block_lt_of_cell? w _ hx378_3)).trans hx378_3
       replace hx378_4 := (HB.out.cell (World.block_lt_of_cell? w _ hx378_4)).trans hx378_4
       replace p378 := eq_true p378
       replace q378 := eq_true q378
       go_wp2_with (first | ((with_reducible refine gate_callee (f := 38) rfl ?_); refine sh_call (some 25) Tryd.func38 #[.agg #[.int .u8 ((rd_T44 l0 a1).f0), .int .u8 ((rd_T44 l0 a1).f1), .int .u8 ((rd_T44 l0 a1).f2), .int .i16 ((rd_T44 l0 a1).f3), .int .i32 ((rd_T44 l0 a1).f4)]] ?_; (with_reducible refine (stockaderef02_Of.calls kj3 ((rd_T44 l0 a1).f0) ((rd_T44 l0 a1).f1) ((rd_T44 l0 a1).f2) ((rd_T44 l0 a1).f3) ((rd_T44 l0 a1).f4) t379 t380 t381 t382 t383 t384 _ A14.out).mono ?_); rintro e w43 ⟨rfl, hb⟩; refine ⟨_, rfl, ?_⟩; replace HB := sh_b (w := w) hb; (try clear hb); (try clear hb2); (try clear hk); (try clear hi)) | ((with_reducible refine gate_dst (N := 7) rfl ?_); refine sh_box 7 #[.int .i64 0, .int .i64 0, .int .i64 0, .bool false, .bool false] 69 ?_; intro gb385 hg w44 hbox hb; have GW385 := sh_z (w := w) hg; have GE385 := sh_z (w := w) hg; replace HB := sh_b (w := w) hb; have BK385 := Aside0.mk (hbox); clear hb hbox hg; have hcz45 := blk_all5 BK385.out))
       go_ret
       exact ⟨ret_now, b_now⟩
     ·rw [if_neg c13] at H
      exact absurd H (by simp)
    ·rw [if_neg c12] at H
     exact absurd H (by simp)

end Go.Proofs.YtkjcjlegokdpdaaDoor.P
