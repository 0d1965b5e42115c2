/- Made by this session's driver over the kit's printer: for each Go function a Lean function with the same answers, and a proof that the Go call comes to these answers; no conditions but the ones each theorem names. -/
import Derived.Test.YtkjcjlegokdpdaaDoorPx0
import Derived.Test.YtkjcjlegokdpdaaDoorPx16
namespace Go.Proofs.YtkjcjlegokdpdaaDoor.P
open Go.RowKit Go.Proofs.YtkjcjlegokdpdaaDoorW.PrintWords Go.Proofs.YtkjcjlegokdpdaaDoorW.PrintLast Go.Proofs.YtkjcjlegokdpdaaDoorW.PrintMore
attribute [local go_sem] max2_int min2_int max_two min_two max_three min_three max_four min_four   -- for this text's walks alone
set_option linter.unusedVariables false
set_option linter.unusedSimpArgs false

/-! ### stockaderef05_All: function 18 -/
def stockaderef05_All.l0 : Nat → List (S44) → List (List Int) → Int → Option ((List (List Int)))
 | 0, _, _, _ => none
 | k + 1, x0, x3, x4 => if x4 < (x0.length : Int) then ((stockaderef05_Next.f k x0 x4).bind fun t425 => (if x3.length < 5864062014805 then (stockaderef05_All.l0 k x0 (x3 ++ [t425]) (wrap64 (x4 + 1))) else (none))) else (some x3)
def stockaderef05_All.f (k : Nat) (l0 : List (S44)) : Option ((List (List Int))) := stockaderef05_All.l0 k l0 ([] : List (List Int)) 0
theorem stockaderef05_All.mono_l : ∀ k, (∀ y0 y1 y2, LeO (stockaderef05_All.l0 k y0 y1 y2) (stockaderef05_All.l0 (k + 1) y0 y1 y2))
 | 0 => fun _ _ _ r h => by simp [stockaderef05_All.l0] at h
 | k + 1 => by
  have ih0 := stockaderef05_All.mono_l k
  ·intro y0 y1 y2
   unfold stockaderef05_All.l0
   repeat' first
   | (with_reducible exact ih0 _ _ _)
   | (with_reducible exact stockaderef05_Next.mono _ _ _)
   | (with_reducible exact LeO.refl _)
   | (with_reducible exact LeO.none _)
   | (with_reducible refine LeO.ite ?_ ?_)
   | (with_reducible refine LeO.bind ?_ (fun _ => ?_))
   | exact ih0 _ _ _
   | exact stockaderef05_Next.mono _ _ _
   | exact LeO.none _
   | refine LeO.ite ?_ ?_
   | refine LeO.bind ?_ (fun _ => ?_)
theorem stockaderef05_All.mono : ∀ a0 k, LeO (stockaderef05_All.f k a0) (stockaderef05_All.f (k + 1) a0) := by
 intro a0 k
 have ih0 := stockaderef05_All.mono_l k
 unfold stockaderef05_All.f
 repeat' first
   | (with_reducible exact ih0 _ _ _)
   | (with_reducible exact stockaderef05_Next.mono _ _ _)
   | (with_reducible exact LeO.refl _)
   | (with_reducible exact LeO.none _)
   | (with_reducible refine LeO.ite ?_ ?_)
   | (with_reducible refine LeO.bind ?_ (fun _ => ?_))
   | exact ih0 _ _ _
   | exact stockaderef05_Next.mono _ _ _
   | exact LeO.none _
   | refine LeO.ite ?_ ?_
   | refine LeO.bind ?_ (fun _ => ?_)
set_option maxHeartbeats 8000000 in
set_option maxRecDepth 100000 in
theorem stockaderef05_All.calls (k : Nat) (A0 : Option Addr) (c0 : Nat) (l0 : List (S44)) (r : List (List Int)) (w : World) (hr0 : Kd.C k44 w A0 l0.length l0) (hc0 : l0.length ≤ c0) (h : stockaderef05_All.f k l0 = some r) :
  Calls Tryd.prog 18 #[.slice A0 l0.length c0] w fun e w' => ∃ v0_ : Value, e = .returned (v0_) ∧ Kd.S (Kd.slice 3 (Kd.int .i64)) 25 w' w.heap.size (fun _ => True) v0_ r ∧ Below w.heap.size w w' := by
 have HR0 := Aside0.mk hr0
 have HC0 := Aside0.mk hc0
 clear hr0 hc0
 have HB := Aside0.mk (Below.refl w.heap.size w)
 have H : (stockaderef05_All.l0 k l0 ([] : List (List Int)) 0) = some r := h
 clear h
 have H' := Aside0.mk H
 clear H
 go_enter Tryd.func18, Tryd.ntmps18
 go_wp2
 go_loopg [3, 4] k (fun kq v3 v4 w' => ∃ (x3_1 : List (List Int)) (x4_1 : Int), v4 = .int .i64 x4_1 ∧ Aside0 (stockaderef05_All.l0 kq l0 x3_1 x4_1 = some r) ∧ Aside0 (kq ≤ k) ∧ Aside0 (Kd.S (Kd.slice 3 (Kd.int .i64)) 25 w' w.heap.size (fun _ => True) v3 x3_1) ∧ Aside0 (Below w.heap.size w w'))
 case atStart => exact ⟨(([] : List (List Int))), (0), eq_now, H', ⟨Nat.le_refl _⟩, ⟨by first | exact Kd.S_nil _ _ _ _ _ | exact Kd.N_nil _ _ _ _ _ | exact Kd.V_nil _ _ _ _ _ | exact Kd.Q_nil _ _ _ _ _ | exact Kd.R_nil _ _ _ _ _⟩, ⟨b_now⟩⟩
 case round =>
  clear H'
  try clear c1
  obtain ⟨x3_1, x4_1, rfl, HA, HK1, HO_3, HB⟩ := hrel
  cases gk with
  | zero => exact absurd HA.out (by simp [stockaderef05_All.l0])
  | succ k1 =>
   have H := HA.out
   clear HA
   simp only [stockaderef05_All.l0] at H
   by_cases c2 : x4_1 < (l0.length : Int)
   ·rw [if_pos c2] at H
    have c2b0 : decide (x4_1 < (l0.length : Int)) = true := decide_eq_true c2
    clear c2
    replace H := Option.bind_eq_some_iff.mp H; obtain ⟨t425, A30, H⟩ := H; try dsimp only at H
    have A3 := Aside0.mk A30
    clear A30
    by_cases c4 : x3_1.length < 5864062014805
    ·rw [if_pos c4] at H
     have LMc4 := Aside0.mk c4
     clear c4
     obtain ⟨y428, hy428⟩ : ∃ y_ : List (List Int), y_ = (x3_1 ++ [t425]) := ⟨_, rfl⟩
     replace H : (stockaderef05_All.l0 k1 l0 y428 (wrap64 (x4_1 + 1))) = some r := by first | (rw [hy428]; with_reducible exact H) | (have H2_ := (Option.bind_some _ _).symm.trans H; rw [hy428]; with_reducible exact H2_) | (have H2_ := (Option.bind_some _ _).symm.trans H; with_reducible exact H2_) | with_reducible exact H | (rw [hy428]; exact H) | exact H
     have Ny428 := Aside0.mk hy428
     clear hy428
     have H' := Aside0.mk H
     clear H
     go_wp2_with (first | ((with_reducible refine gate_callee (f := 13) rfl ?_); refine sh_call (some 14) Tryd.func13 #[.slice A0 l0.length c0, .int .i64 x4_1] ?_; (with_reducible refine (stockaderef05_Next.calls k1 _ _ l0 x4_1 t425 _ ?side1 ?side2 A3.out).mono ?_); (case side1 => repeat (first | exact (Kd.C_below HR0.out HB.out) | (with_reducible refine Kd.C_alloc ?_ _) | (with_reducible refine Kd.C_drewN ?_ _) | (with_reducible refine Kd.C_drew ?_))); (case side2 => exact HC0.out); rintro e w5 ⟨v426, rfl, ho0, hb⟩; refine ⟨_, rfl, ?_⟩; have HO427 := Aside0.mk (Kd.R_lower ho0 (below_size b_now)); replace HO_3 := Aside0.mk (Kd.S_elder' (by (with_reducible repeat (first | apply Kd.S_alloc | apply Kd.S_drewN | apply Kd.S_drew)); exact HO_3.out) (Kd.R_base ho0) hb); replace HB := sh_b (w := w) hb; (try clear hb); (try clear hb2); (try clear hk); (try clear hi); (try clear ho0); obtain ⟨Ao7, co7, eo7⟩ := Kd.R_slice HO427.out; subst eo7) | ((with_reducible refine gate_builtin (b := .append) (xs := #[.tmp 11, .tmp 15]) rfl ?_); at_builtin; refine Kd.S_append (Kd.slice 3 (Kd.int .i64)) (w0 := w) w.heap.size rfl (.tmp 11) (.tmp 15) 35 25 (.slice none 0 0) 24 rfl Tryd.underlying35 info25 rfl (by decide) (by omega) u3 x3_1 t425 [.slice Ao7 t425.length co7] (fun _ => True) (fun k_ => some k_ = (.slice Ao7 t425.length co7 : Value).ownBlock) rfl rfl ?aP (fun k_ hk_ => ((Kd.R_mono (ok' := fun k_ => ((fun _ => True)) k_ ∧ some k_ ≠ (u3 : Value).ownBlock) (Kd.R_apart' (HO427.out) (Kd.S_typed HO_3.out) (by decide)) (fun k_ hk => ⟨trivial, hk.2⟩))).1 k_ hk_.symm) ?aF ?aO ?aB ?aS ?aL ?_; (case aP => exact Kd.M_row (Kd.R_mono (Kd.R_tight rfl (Kd.R_mono (ok' := fun k_ => ((fun _ => True)) k_ ∧ some k_ ≠ (u3 : Value).ownBlock) (Kd.R_apart' (HO427.out) (Kd.S_typed HO_3.out) (by decide)) (fun k_ hk => ⟨trivial, hk.2⟩))) (fun _ h_ => h_))); (case aB => exact b_now); (case aF => exact (fun _ _ => trivial)); (case aO => exact (by (with_reducible repeat (first | apply Kd.S_alloc | apply Kd.S_drewN | apply Kd.S_drew)); exact Kd.S_mono HO_3.out (fun k_ hk => ⟨trivial, fun e_ => hk.2 e_⟩))); (case aS => exact (below_size b_now)); (case aL => have := LMc4.out; omega); intro v429 w6 ho hb hg hat; rw [← Ny428.out] at ho; have n0_ := Aside0.mk (hb); have n1_ := Aside0.mk (ho); clear HB; clear HO_3; clear HO427; have HB := n0_; have HO430 := n1_; clear n0_ n1_; clear ho hb hg hat))
     go_roundg k1
     case measure => have := HK1.out; omega
     case rel => exact ⟨(y428), (wrap64 (x4_1 + 1)), eq_now, H', ⟨by have := HK1.out; omega⟩, ⟨by (with_reducible repeat (first | apply Kd.S_alloc | apply Kd.S_drewN | apply Kd.S_drew)); exact HO430.out⟩, ⟨b_now⟩⟩
    ·rw [if_neg c4] at H
     exact absurd H (by simp)
   ·rw [if_neg c2] at H
    have c2b0 : decide (x4_1 < (l0.length : Int)) = false := decide_eq_false c2
    clear c2
    obtain rfl := Option.some.inj H
    go_wp2
    go_ret
    exact ⟨_, ret_now, by (with_reducible repeat (first | apply Kd.S_alloc | apply Kd.S_drewN | apply Kd.S_drew)); exact HO_3.out, b_now⟩

/-! ### stockaderef05_Reached: function 22 -/
mutual
def stockaderef05_Reached.l0 : Nat → List (List Int) → List Bool → Bool → Option (List Bool)
 | 0, _, _, _ => none
 | k + 1, x0, x3, x4 => if x4 = true then (stockaderef05_Reached.l1 k x0 x3 false 0) else (some x3)
def stockaderef05_Reached.l1 : Nat → List (List Int) → List Bool → Bool → Int → Option (List Bool)
 | 0, _, _, _, _ => none
 | k + 1, x0, x3, x4, x5 => if x5 < (x0.length : Int) then (stockaderef05_Reached.l2 k x0 x3 x4 x5 0) else (stockaderef05_Reached.l0 k x0 x3 x4)
def stockaderef05_Reached.l2 : Nat → List (List Int) → List Bool → Bool → Int → Int → Option (List Bool)
 | 0, _, _, _, _, _ => none
 | k + 1, x0, x3, x4, x5, x6 => if 0 ≤ x5 then (if x5 < (x0.length : Int) then (if x6 < ((rd_L8 x0 x5).length : Int) then (if x5 < (x3.length : Int) then (stockaderef05_Reached.j3 k x0 x3 x4 x5 x6 (rdOf false x3 x5)) else (none)) else (stockaderef05_Reached.j3 k x0 x3 x4 x5 x6 false)) else (none)) else (none)
def stockaderef05_Reached.j3 : Nat → List (List Int) → List Bool → Bool → Int → Int → Bool → Option (List Bool)
 | 0, _, _, _, _, _, _ => none
 | k + 1, x0, x3, x4, x5, x6, x35 => if x35 = true then (if 0 ≤ x5 then (if x5 < (x0.length : Int) then (if 0 ≤ x6 then (if x6 < ((rd_L8 x0 x5).length : Int) then (if 0 ≤ (rd (rd_L8 x0 x5) x6) then (if (rd (rd_L8 x0 x5) x6) < (x3.length : Int) then (if (rdOf false x3 (rd (rd_L8 x0 x5) x6) = true) then (stockaderef05_Reached.l2 k x0 x3 x4 x5 (wrap64 (x6 + 1))) else (stockaderef05_Reached.l2 k x0 (x3.set ((rd (rd_L8 x0 x5) x6) : Int).toNat true) true x5 (wrap64 (x6 + 1)))) else (none)) else (none)) else (none)) else (none)) else (none)) else (none)) else (stockaderef05_Reached.l1 k x0 x3 x4 (wrap64 (x5 + 1)))
end
def stockaderef05_Reached.f (k : Nat) (l0 : List (List Int)) : Option (List Bool) := if 0 ≤ (l0.length : Int) then (if ((l0.length : Int) : Int).toNat ≤ 281474976710656 then ((some (List.replicate ((l0.length : Int) : Int).toNat false : List Bool)).bind fun y431 => (if (l0.length : Int) = 0 then (some y431) else (if 0 < (y431.length : Int) then (stockaderef05_Reached.l0 k l0 (y431.set (0 : Int).toNat true) true) else (none)))) else (none)) else (none)
theorem stockaderef05_Reached.mono_l : ∀ k, (∀ y0 y1 y2, LeO (stockaderef05_Reached.l0 k y0 y1 y2) (stockaderef05_Reached.l0 (k + 1) y0 y1 y2)) ∧ (∀ y0 y1 y2 y3, LeO (stockaderef05_Reached.l1 k y0 y1 y2 y3) (stockaderef05_Reached.l1 (k + 1) y0 y1 y2 y3)) ∧ (∀ y0 y1 y2 y3 y4, LeO (stockaderef05_Reached.l2 k y0 y1 y2 y3 y4) (stockaderef05_Reached.l2 (k + 1) y0 y1 y2 y3 y4)) ∧ (∀ y0 y1 y2 y3 y4 y5, LeO (stockaderef05_Reached.j3 k y0 y1 y2 y3 y4 y5) (stockaderef05_Reached.j3 (k + 1) y0 y1 y2 y3 y4 y5))
 | 0 => ⟨fun _ _ _ r h => by simp [stockaderef05_Reached.l0] at h, fun _ _ _ _ r h => by simp [stockaderef05_Reached.l1] at h, fun _ _ _ _ _ r h => by simp [stockaderef05_Reached.l2] at h, fun _ _ _ _ _ _ r h => by simp [stockaderef05_Reached.j3] at h⟩
 | k + 1 => by
  obtain ⟨ih0, ih1, ih2, ih3⟩ := stockaderef05_Reached.mono_l k
  refine ⟨?_, ?_, ?_, ?_⟩
  ·intro y0 y1 y2
   unfold stockaderef05_Reached.l0
   repeat' first
   | (with_reducible exact ih0 _ _ _)
   | (with_reducible exact ih1 _ _ _ _)
   | (with_reducible exact ih2 _ _ _ _ _)
   | (with_reducible exact ih3 _ _ _ _ _ _)
   | (with_reducible exact LeO.refl _)
   | (with_reducible exact LeO.none _)
   | (with_reducible refine LeO.ite ?_ ?_)
   | (with_reducible refine LeO.bind ?_ (fun _ => ?_))
   | exact ih0 _ _ _
   | exact ih1 _ _ _ _
   | exact ih2 _ _ _ _ _
   | exact ih3 _ _ _ _ _ _
   | exact LeO.none _
   | refine LeO.ite ?_ ?_
   | refine LeO.bind ?_ (fun _ => ?_)
  ·intro y0 y1 y2 y3
   unfold stockaderef05_Reached.l1
   repeat' first
   | (with_reducible exact ih0 _ _ _)
   | (with_reducible exact ih1 _ _ _ _)
   | (with_reducible exact ih2 _ _ _ _ _)
   | (with_reducible exact ih3 _ _ _ _ _ _)
   | (with_reducible exact LeO.refl _)
   | (with_reducible exact LeO.none _)
   | (with_reducible refine LeO.ite ?_ ?_)
   | (with_reducible refine LeO.bind ?_ (fun _ => ?_))
   | exact ih0 _ _ _
   | exact ih1 _ _ _ _
   | exact ih2 _ _ _ _ _
   | exact ih3 _ _ _ _ _ _
   | exact LeO.none _
   | refine LeO.ite ?_ ?_
   | refine LeO.bind ?_ (fun _ => ?_)
  ·intro y0 y1 y2 y3 y4
   unfold stockaderef05_Reached.l2
   repeat' first
   | (with_reducible exact ih0 _ _ _)
   | (with_reducible exact ih1 _ _ _ _)
   | (with_reducible exact ih2 _ _ _ _ _)
   | (with_reducible exact ih3 _ _ _ _ _ _)
   | (with_reducible exact LeO.refl _)
   | (with_reducible exact LeO.none _)
   | (with_reducible refine LeO.ite ?_ ?_)
   | (with_reducible refine LeO.bind ?_ (fun _ => ?_))
   | exact ih0 _ _ _
   | exact ih1 _ _ _ _
   | exact ih2 _ _ _ _ _
   | exact ih3 _ _ _ _ _ _
   | exact LeO.none _
   | refine LeO.ite ?_ ?_
   | refine LeO.bind ?_ (fun _ => ?_)
  ·intro y0 y1 y2 y3 y4 y5
   unfold stockaderef05_Reached.j3
   repeat' first
   | (with_reducible exact ih0 _ _ _)
   | (with_reducible exact ih1 _ _ _ _)
   | (with_reducible exact ih2 _ _ _ _ _)
   | (with_reducible exact ih3 _ _ _ _ _ _)
   | (with_reducible exact LeO.refl _)
   | (with_reducible exact LeO.none _)
   | (with_reducible refine LeO.ite ?_ ?_)
   | (with_reducible refine LeO.bind ?_ (fun _ => ?_))
   | exact ih0 _ _ _
   | exact ih1 _ _ _ _
   | exact ih2 _ _ _ _ _
   | exact ih3 _ _ _ _ _ _
   | exact LeO.none _
   | refine LeO.ite ?_ ?_
   | refine LeO.bind ?_ (fun _ => ?_)
theorem stockaderef05_Reached.mono : ∀ a0 k, LeO (stockaderef05_Reached.f k a0) (stockaderef05_Reached.f (k + 1) a0) := by
 intro a0 k
 obtain ⟨ih0, ih1, ih2, ih3⟩ := stockaderef05_Reached.mono_l k
 unfold stockaderef05_Reached.f
 repeat' first
   | (with_reducible exact ih0 _ _ _)
   | (with_reducible exact ih1 _ _ _ _)
   | (with_reducible exact ih2 _ _ _ _ _)
   | (with_reducible exact ih3 _ _ _ _ _ _)
   | (with_reducible exact LeO.refl _)
   | (with_reducible exact LeO.none _)
   | (with_reducible refine LeO.ite ?_ ?_)
   | (with_reducible refine LeO.bind ?_ (fun _ => ?_))
   | exact ih0 _ _ _
   | exact ih1 _ _ _ _
   | exact ih2 _ _ _ _ _
   | exact ih3 _ _ _ _ _ _
   | exact LeO.none _
   | refine LeO.ite ?_ ?_
   | refine LeO.bind ?_ (fun _ => ?_)
set_option maxHeartbeats 8000000 in
set_option maxRecDepth 100000 in
theorem stockaderef05_Reached.calls (k : Nat) (A0 : Option Addr) (c0 : Nat) (l0 : List (List Int)) (r : List Bool) (w : World) (hr0 : Kd.C (Kd.slice 3 (Kd.int .i64)) w A0 l0.length l0) (hc0 : l0.length ≤ c0) (h : stockaderef05_Reached.f k l0 = some r) :
  Calls Tryd.prog 22 #[.slice A0 l0.length c0] w fun e w' => ∃ v0_ : Value, e = .returned (v0_) ∧ Kd.R Kd.bool 4 w' w.heap.size (fun _ => True) v0_ r ∧ Below w.heap.size w w' := by
 have HR0 := Aside0.mk hr0
 have HC0 := Aside0.mk hc0
 clear hr0 hc0
 have HB := Aside0.mk (Below.refl w.heap.size w)
 have H : (if 0 ≤ (l0.length : Int) then (if ((l0.length : Int) : Int).toNat ≤ 281474976710656 then ((some (List.replicate ((l0.length : Int) : Int).toNat false : List Bool)).bind fun y431 => (if (l0.length : Int) = 0 then (some y431) else (if 0 < (y431.length : Int) then (stockaderef05_Reached.l0 k l0 (y431.set (0 : Int).toNat true) true) else (none)))) else (none)) else (none)) = some r := h
 clear h
 by_cases c2 : 0 ≤ (l0.length : Int)
 ·rw [if_pos c2] at H
  have c2b0 := eq_true c2
  have c2b1 : decide (0 ≤ (l0.length : Int)) = true := decide_eq_true c2
  clear c2
  by_cases c3 : ((l0.length : Int) : Int).toNat ≤ 281474976710656
  ·rw [if_pos c3] at H
   have c3b0 := eq_true c3
   have c3b1 : decide (((l0.length : Int) : Int).toNat ≤ 281474976710656) = true := decide_eq_true c3
   clear c3
   obtain ⟨y431, hy431⟩ : ∃ y_ : List Bool, y_ = (List.replicate ((l0.length : Int) : Int).toNat false) := ⟨_, rfl⟩
   replace H : (if (l0.length : Int) = 0 then (some y431) else (if 0 < (y431.length : Int) then (stockaderef05_Reached.l0 k l0 (y431.set (0 : Int).toNat true) true) else (none))) = some r := by first | (rw [hy431]; with_reducible exact H) | (have H2_ := (Option.bind_some _ _).symm.trans H; rw [hy431]; with_reducible exact H2_) | (have H2_ := (Option.bind_some _ _).symm.trans H; with_reducible exact H2_) | with_reducible exact H | (rw [hy431]; exact H) | exact H
   have Ny431 := Aside0.mk hy431
   clear hy431
   by_cases c4 : (l0.length : Int) = 0
   ·rw [if_pos c4] at H
    have c4b0 : ((l0.length : Int) == 0) = true := beq_iff_eq.mpr c4
    have c4b1 : ((l0.length : Int) != 0) = false := bne_eq_false_iff_eq.mpr c4
    clear c4
    obtain rfl := Option.some.inj H
    go_enter Tryd.func22, Tryd.ntmps22
    go_wp2_with (first | ((with_reducible refine gate_dst (N := 9) rfl ?_); refine Kd.R_make Kd.bool _ 4 rfl (N := 9) rfl 46 _ _ rfl (l0.length : Int) rfl rfl Tryd.underlying46 (.bool false) 1 info4 rfl (by decide) (by omega) false (ok := fun _ => True) (okp := fun _ => True) rfl (fun _ hk => hk) trivial (of_decide_eq_true (by first | (with_reducible assumption) | assumption)) (Nat.le_trans (Nat.mul_le_mul_right _ (of_decide_eq_true (by first | (with_reducible assumption) | assumption) : (l0.length : Int).toNat ≤ 281474976710656)) (by omega)) (Below.refl _ _) (Nat.le_refl _) ?_; intro v432 w5 ho6 hb hg_ hnew_; clear hg_ hnew_; (first | rw [← Ny431.out] at ho6 | (simp only [Int.reduceToNat] at ho6; rw [← Ny431.out] at ho6)); have HO433 := Aside0.mk (Kd.R_lower ho6 (below_size b_now)); replace HB := sh_b (w := w) hb; clear hb ho6))
    go_ret
    exact ⟨_, ret_now, by (with_reducible repeat (first | apply Kd.R_alloc | apply Kd.R_drewN | apply Kd.R_drew)); exact HO433.out, b_now⟩
   ·rw [if_neg c4] at H
    have c4b0 : ((l0.length : Int) == 0) = false := beq_eq_false_iff_ne.mpr c4
    have c4b1 : ((l0.length : Int) != 0) = true := bne_iff_ne.mpr c4
    have c4b2 : ¬ (l0 = []) := fun h_ => c4 (by rw [h_]; rfl)
    by_cases c7 : 0 < (y431.length : Int)
    ·rw [if_pos c7] at H
     have c7b0 : decide (0 < (y431.length : Int)) = true := decide_eq_true c7
     have c7b1 : decide (0 < y431.length) = true := decide_eq_true (by omega)
     clear c7
     obtain ⟨y434, hy434⟩ : ∃ y_ : List Bool, y_ = (y431.set (0 : Int).toNat true) := ⟨_, rfl⟩
     replace H : (stockaderef05_Reached.l0 k l0 y434 true) = some r := by first | (rw [hy434]; with_reducible exact H) | (have H2_ := (Option.bind_some _ _).symm.trans H; rw [hy434]; with_reducible exact H2_) | (have H2_ := (Option.bind_some _ _).symm.trans H; with_reducible exact H2_) | with_reducible exact H | (rw [hy434]; exact H) | exact H
     have Ny434 := Aside0.mk hy434
     clear hy434
     have H' := Aside0.mk H
     clear H
     go_enter Tryd.func22, Tryd.ntmps22
     go_wp2_with (first | ((with_reducible refine gate_dst (N := 9) rfl ?_); refine Kd.R_make Kd.bool _ 4 rfl (N := 9) rfl 46 _ _ rfl (l0.length : Int) rfl rfl Tryd.underlying46 (.bool false) 1 info4 rfl (by decide) (by omega) false (ok := fun _ => True) (okp := fun _ => True) rfl (fun _ hk => hk) trivial (of_decide_eq_true (by first | (with_reducible assumption) | assumption)) (Nat.le_trans (Nat.mul_le_mul_right _ (of_decide_eq_true (by first | (with_reducible assumption) | assumption) : (l0.length : Int).toNat ≤ 281474976710656)) (by omega)) (Below.refl _ _) (Nat.le_refl _) ?_; intro v432 w9 ho10 hb hg_ hnew_; clear hg_ hnew_; (first | rw [← Ny431.out] at ho10 | (simp only [Int.reduceToNat] at ho10; rw [← Ny431.out] at ho10)); have HO433 := Aside0.mk (Kd.R_lower ho10 (below_size b_now)); replace HB := sh_b (w := w) hb; clear hb ho10; have p8 : 0 ≤ (0 : Int) := (by omega); have q8 : (0 : Int) < ((y431.length : Int) : Int) := of_decide_eq_true (by first | (with_reducible assumption) | assumption); have qi8 : (0 < y431.length) = True := eq_true (by omega); obtain ⟨go8, co8, eo8, gb8, gl8, cl8, HG8⟩ := Kd.R_form HO433.out (by omega); (first | cases eo8 | (injection eo8 with ea_ en_ ec_; (first | subst ea_ | (injection ea_ with ea_; subst ea_)); subst ec_; clear en_)); have GB8 := Aside0.mk gb8; have GG8 := Aside0.mk HG8; clear gb8 gl8 HG8; obtain ⟨hx8_0, hf8_0⟩ := Kd.R_celln false HO433.out (0 : Int) p8 q8; (try rw [show ((0 : Int)).toNat = 0 from rfl] at hx8_0); (try simp only [Nat.reduceMul, Nat.zero_mul, Nat.zero_add, Nat.reduceAdd] at hx8_0); (try rw [show ((0 : Int)).toNat = 0 from rfl] at hf8_0); (try simp only [Nat.reduceMul, Nat.zero_mul, Nat.zero_add, Nat.reduceAdd] at hf8_0); replace p8 := eq_true p8; replace q8 := eq_true q8; obtain ⟨hy11_, hz11_⟩ := Kd.R_celln false HO433.out (0 : Int) (by omega) (of_decide_eq_true (by first | (with_reducible assumption) | assumption)); (try simp only [Int.reduceToNat, Int.toNat_zero, Int.toNat_ofNat, Nat.reduceMul, Nat.zero_mul, Nat.zero_add] at hy11_ hz11_); (try rw [show ((0 : Int)).toNat = 0 from rfl] at hy11_); (try rw [show ((0 : Int)).toNat = 0 from rfl] at hz11_); have HP11 := Kd.R_putg HO433.out (0 : Int) true) | ((with_reducible refine gate_store (t := 4) (p := 15) rfl ?_); refine store_event (t := 4) (p := 15) (v := ?vo_w12) (w1 := (w9.setCell ⟨go8, (0 : Int).toNat, none⟩ (.bool true))) ?hg ?ho ?hn ?hr ?_; (case ho => rfl); (case hg => rfl); (case hn => rfl); (case hr => first | (go_simp; done) | (go_simp; rfl)); intro w12 hw; have hg : w9.grownBy w12 (some go8) := (by rw [hw]; exact HP11.2); have hp_ : Kd.R Kd.bool 4 w12 w.heap.size (fun _ => True) (.slice (some ⟨go8, 0, none⟩) y431.length co8) y434 := (by rw [hw, Ny434.out]; exact HP11.1); clear HP11; replace HO433 := Aside0.mk (hp_); replace HB := Aside0.mk ((by rw [hw]; exact below_set (HB.out) GB8.out : Below w.heap.size w w12)); clear hg hw hp_))
     go_loopg [4] k (fun kq v4 w' => ∃ (x3_1 : List Bool) (x4_1 : Bool), v4 = .bool x4_1 ∧ Aside0 (stockaderef05_Reached.l0 kq l0 x3_1 x4_1 = some r) ∧ Aside0 (kq ≤ k) ∧ Aside0 (Kd.R Kd.bool 4 w' w.heap.size (fun _ => True) (.slice (some ⟨go8, 0, none⟩) y431.length co8) x3_1) ∧ Aside0 (Below w.heap.size w w'))
     case atStart => exact ⟨(y434), (true), eq_now, H', ⟨Nat.le_refl _⟩, ⟨by (with_reducible repeat (first | apply Kd.R_alloc | apply Kd.R_drewN | apply Kd.R_drew)); exact HO433.out⟩, ⟨b_now⟩⟩
     case round =>
      clear H'
      try clear c2
      try clear c2b0
      try clear c2b1
      try clear p2
      try clear c3
      try clear c3b0
      try clear c3b1
      try clear c4
      try clear c4b0
      try clear c4b1
      try clear c4b2
      try clear c7
      try clear c7b0
      try clear c7b1
      try clear p8
      try clear q8
      try clear hx8
      try clear qi8
      try clear hf8
      try clear hx8_0
      try clear p8
      try clear q8
      obtain ⟨x3_1, x4_1, rfl, HA, HK1, HO_3, HB⟩ := hrel
      have hl3_1 := (Kd.R_reads' HO_3.out).1
      rw [hl3_1] at HO_3
      (try simp only [hl3_1])
      cases gk with
      | zero => exact absurd HA.out (by simp [stockaderef05_Reached.l0])
      | succ k1 =>
       have H := HA.out
       clear HA
       simp only [stockaderef05_Reached.l0] at H
       by_cases c13 : x4_1 = true
       ·subst c13
        replace H := sh_t H
        have H' := Aside0.mk H
        clear H
        go_wp2
        go_loopg [4, 5] k1 (fun kq v4 v5 w' => ∃ (x3_2 : List Bool) (x4_2 : Bool) (x5_2 : Int), v4 = .bool x4_2 ∧ v5 = .int .i64 x5_2 ∧ Aside0 (stockaderef05_Reached.l1 kq l0 x3_2 x4_2 x5_2 = some r) ∧ Aside0 (kq ≤ k1) ∧ Aside0 (Kd.R Kd.bool 4 w' w.heap.size (fun _ => True) (.slice (some ⟨go8, 0, none⟩) x3_1.length co8) x3_2) ∧ Aside0 (Below w.heap.size w w'))
        case atStart => exact ⟨(x3_1), (false), (0), eq_now, eq_now, H', ⟨Nat.le_refl _⟩, ⟨by (try simp only [hl3_1]); (with_reducible repeat (first | apply Kd.R_alloc | apply Kd.R_drewN | apply Kd.R_drew)); exact HO_3.out⟩, ⟨b_now⟩⟩
        case round =>
         clear H'
         try clear c1
         try clear c2
         try clear c2b0
         try clear c2b1
         try clear p2
         try clear c3
         try clear c3b0
         try clear c3b1
         try clear c4
         try clear c4b0
         try clear c4b1
         try clear c4b2
         try clear c7
         try clear c7b0
         try clear c7b1
         try clear p8
         try clear q8
         try clear hx8
         try clear qi8
         try clear hf8
         try clear c13
         try clear hx8_0
         try clear p2
         try clear p8
         try clear q8
         obtain ⟨x3_2, x4_2, x5_2, rfl, rfl, HA, HK2, HO_3, HB⟩ := hrel
         have hl3_2 := (Kd.R_reads' HO_3.out).1
         rw [hl3_2] at HO_3
         (try simp only [hl3_2])
         cases gk with
         | zero => exact absurd HA.out (by simp [stockaderef05_Reached.l1])
         | succ k2 =>
          have H := HA.out
          clear HA
          simp only [stockaderef05_Reached.l1] at H
          by_cases c14 : x5_2 < (l0.length : Int)
          ·rw [if_pos c14] at H
           have c14b0 : decide (x5_2 < (l0.length : Int)) = true := decide_eq_true c14
           clear c14
           have H' := Aside0.mk H
           clear H
           go_wp2
           go_loopg [4, 6] k2 (fun kq v4 v6 w' => ∃ (x3_3 : List Bool) (x4_3 : Bool) (x6_3 : Int), v4 = .bool x4_3 ∧ v6 = .int .i64 x6_3 ∧ Aside0 (stockaderef05_Reached.l2 kq l0 x3_3 x4_3 x5_2 x6_3 = some r) ∧ Aside0 (kq ≤ k2) ∧ Aside0 (Kd.R Kd.bool 4 w' w.heap.size (fun _ => True) (.slice (some ⟨go8, 0, none⟩) x3_2.length co8) x3_3) ∧ Aside0 (Below w.heap.size w w'))
           case atStart => exact ⟨(x3_2), (x4_2), (0), eq_now, eq_now, H', ⟨Nat.le_refl _⟩, ⟨by (try simp only [hl3_1]); (try simp only [hl3_2]); (with_reducible repeat (first | apply Kd.R_alloc | apply Kd.R_drewN | apply Kd.R_drew)); exact HO_3.out⟩, ⟨b_now⟩⟩
           case round =>
            clear H'
            try clear c1
            try clear c2
            try clear c2b0
            try clear c2b1
            try clear p2
            try clear c3
            try clear c3b0
            try clear c3b1
            try clear c4
            try clear c4b0
            try clear c4b1
            try clear c4b2
            try clear c7
            try clear c7b0
            try clear c7b1
            try clear p8
            try clear q8
            try clear hx8
            try clear qi8
            try clear hf8
            try clear c13
            try clear c14
            try clear c14b0
            try clear hx8_0
            try clear p2
            try clear p8
            try clear q8
            obtain ⟨x3_3, x4_3, x6_3, rfl, rfl, HA, HK3, HO_3, HB⟩ := hrel
            have hl3_3 := (Kd.R_reads' HO_3.out).1
            rw [hl3_3] at HO_3
            (try simp only [hl3_3])
            cases gk with
            | zero => exact absurd HA.out (by simp [stockaderef05_Reached.l2])
            | succ k3 =>
             have H := HA.out
             clear HA
             simp only [stockaderef05_Reached.l2] at H
             have HC15 := Aside0.mk H
             clear H
             go_upto_region 12 with (fail)
             go_cut [35] (fun v35 wc => ∃ (kq : Nat) (x35_14 : Bool), v35 = .bool x35_14 ∧ Aside0 (stockaderef05_Reached.j3 kq l0 x3_3 x4_3 x5_2 x6_3 x35_14 = some r) ∧ Aside0 (kq ≤ k3) ∧ Aside0 (Kd.R Kd.bool 4 wc w.heap.size (fun _ => True) (.slice (some ⟨go8, 0, none⟩) x3_3.length co8) x3_3) ∧ Aside0 (Below w.heap.size w wc))
             case first =>
              have H := HC15.out
              clear HC15
              by_cases c16 : 0 ≤ x5_2
              ·rw [if_pos c16] at H
               have c16b0 : decide (0 ≤ x5_2) = true := decide_eq_true c16
               clear c16
               (first | rw [c16b0] | (simp only [i64_w, i32_w]; rw [c16b0]) | skip)
               by_cases c17 : x5_2 < (l0.length : Int)
               ·rw [if_pos c17] at H
                have c17b0 : decide (x5_2 < (l0.length : Int)) = true := decide_eq_true c17
                clear c17
                by_cases c18 : x6_3 < ((rd_L8 l0 x5_2).length : Int)
                ·rw [if_pos c18] at H
                 have c18b0 : decide (x6_3 < ((rd_L8 l0 x5_2).length : Int)) = true := decide_eq_true c18
                 clear c18
                 by_cases c19 : x5_2 < (x3_3.length : Int)
                 ·rw [if_pos c19] at H
                  have c19b0 : decide (x5_2 < (x3_3.length : Int)) = true := decide_eq_true c19
                  clear c19
                  have H' := Aside0.mk H
                  clear H
                  have p435 : 0 ≤ (x5_2 : Int) := of_decide_eq_true (by first | (with_reducible assumption) | assumption)
                  have q435 : x5_2 < (l0.length : Int) := of_decide_eq_true (by first | (with_reducible assumption) | assumption)
                  obtain ⟨ad435, A435_0, c435_0, e435, hx435_0, hl435_0, hi435_0⟩ := at_L8 HR0.out x5_2 p435 q435
                  cases e435
                  replace hx435_0 := (HB.out.cell (World.block_lt_of_cell? w _ hx435_0)).trans hx435_0
                  have HR435_0 := Aside0.mk hi435_0
                  have HC435_0 := Aside0.mk hl435_0
                  clear hi435_0 hl435_0
                  replace p435 := eq_true p435
                  replace q435 := eq_true q435
                  have p436 : 0 ≤ (x5_2 : Int) := of_decide_eq_true (by first | (with_reducible assumption) | assumption)
                  have q436 : x5_2 < (x3_3.length : Int) := of_decide_eq_true (by first | (with_reducible assumption) | assumption)
                  obtain ⟨ad436, e436, hx436_0⟩ := Kd.at_bool (Kd.R_reads' HO_3.out).2.2 x5_2 p436 q436
                  obtain rfl : (⟨go8, 0, none⟩ : Addr) = ad436 := (by injection e436)
                  (first | simp only [add_plain] at hx436_0 | simp only [add_at] at hx436_0 | simp only [Addr.add, Nat.zero_add] at hx436_0 | skip)
                  replace p436 := eq_true p436
                  replace q436 := eq_true q436
                  go_wp2
                  go_meet
                  case rel => exact ⟨_, (rdOf false x3_3 x5_2), eq_now, H', ⟨by have := HK1.out; have := HK2.out; have := HK3.out; first | omega | exact Nat.le_refl _⟩, ⟨by (try simp only [hl3_1]); (try simp only [hl3_2]); (try simp only [hl3_3]); (with_reducible repeat (first | apply Kd.R_alloc | apply Kd.R_drewN | apply Kd.R_drew)); exact HO_3.out⟩, ⟨b_now⟩⟩
                 ·rw [if_neg c19] at H
                  exact absurd H (by simp)
                ·rw [if_neg c18] at H
                 have c18b0 : decide (x6_3 < ((rd_L8 l0 x5_2).length : Int)) = false := decide_eq_false c18
                 clear c18
                 have H' := Aside0.mk H
                 clear H
                 have p435 : 0 ≤ (x5_2 : Int) := of_decide_eq_true (by first | (with_reducible assumption) | assumption)
                 have q435 : x5_2 < (l0.length : Int) := of_decide_eq_true (by first | (with_reducible assumption) | assumption)
                 obtain ⟨ad435, A435_0, c435_0, e435, hx435_0, hl435_0, hi435_0⟩ := at_L8 HR0.out x5_2 p435 q435
                 cases e435
                 replace hx435_0 := (HB.out.cell (World.block_lt_of_cell? w _ hx435_0)).trans hx435_0
                 have HR435_0 := Aside0.mk hi435_0
                 have HC435_0 := Aside0.mk hl435_0
                 clear hi435_0 hl435_0
                 replace p435 := eq_true p435
                 replace q435 := eq_true q435
                 go_wp2
                 go_meet
                 case rel => exact ⟨_, (false), eq_now, H', ⟨by have := HK1.out; have := HK2.out; have := HK3.out; first | omega | exact Nat.le_refl _⟩, ⟨by (try simp only [hl3_1]); (try simp only [hl3_2]); (try simp only [hl3_3]); (with_reducible repeat (first | apply Kd.R_alloc | apply Kd.R_drewN | apply Kd.R_drew)); exact HO_3.out⟩, ⟨b_now⟩⟩
               ·rw [if_neg c17] at H
                exact absurd H (by simp)
              ·rw [if_neg c16] at H
               exact absurd H (by simp)
             case rest =>
              clear HC15
              try clear c1
              try clear c2
              try clear c2b0
              try clear c2b1
              try clear p2
              try clear c3
              try clear c3b0
              try clear c3b1
              try clear c4
              try clear c4b0
              try clear c4b1
              try clear c4b2
              try clear p4
              try clear q4
              try clear hx4
              try clear c7
              try clear c7b0
              try clear c7b1
              try clear p8
              try clear q8
              try clear hx8
              try clear qi8
              try clear hf8
              try clear c13
              try clear c14
              try clear c14b0
              try clear c16
              try clear c16b0
              try clear c17
              try clear c17b0
              try clear c18
              try clear c18b0
              try clear c19
              try clear c19b0
              try clear hx435_0
              try clear hx436_0
              try clear hx8_0
              try clear p2
              try clear p435
              try clear p436
              try clear p8
              try clear q435
              try clear q436
              try clear q8
              obtain ⟨kq, x35_14, rfl, HA, HJ14, HO_3, HB⟩ := hcut
              cases kq with
              | zero => exact absurd HA.out (by simp [stockaderef05_Reached.j3])
              | succ kj14 =>
               have H := HA.out
               clear HA
               simp only [stockaderef05_Reached.j3] at H
               by_cases c20 : x35_14 = true
               ·subst c20
                replace H := sh_t H
                by_cases c21 : 0 ≤ x5_2
                ·rw [if_pos c21] at H
                 have c21b0 : decide (0 ≤ x5_2) = true := decide_eq_true c21
                 clear c21
                 by_cases c22 : x5_2 < (l0.length : Int)
                 ·rw [if_pos c22] at H
                  have c22b0 : decide (x5_2 < (l0.length : Int)) = true := decide_eq_true c22
                  clear c22
                  by_cases c23 : 0 ≤ x6_3
                  ·rw [if_pos c23] at H
                   have c23b0 : decide (0 ≤ x6_3) = true := decide_eq_true c23
                   clear c23
                   by_cases c24 : x6_3 < ((rd_L8 l0 x5_2).length : Int)
                   ·rw [if_pos c24] at H
                    have c24b0 : decide (x6_3 < ((rd_L8 l0 x5_2).length : Int)) = true := decide_eq_true c24
                    clear c24
                    by_cases c25 : 0 ≤ (rd (rd_L8 l0 x5_2) x6_3)
                    ·rw [if_pos c25] at H
                     have c25b0 : decide (0 ≤ (rd (rd_L8 l0 x5_2) x6_3)) = true := decide_eq_true c25
                     clear c25
                     by_cases c26 : (rd (rd_L8 l0 x5_2) x6_3) < (x3_3.length : Int)
                     ·rw [if_pos c26] at H
                      have c26b0 : decide ((rd (rd_L8 l0 x5_2) x6_3) < (x3_3.length : Int)) = true := decide_eq_true c26
                      clear c26
                      obtain ⟨bq27, hbq27⟩ : ∃ b_ : Bool, b_ = (rdOf false x3_3 (rd (rd_L8 l0 x5_2) x6_3)) := ⟨_, rfl⟩
                      replace H : (if (bq27 = true) then (stockaderef05_Reached.l2 kj14 l0 x3_3 x4_3 x5_2 (wrap64 (x6_3 + 1))) else (stockaderef05_Reached.l2 kj14 l0 (x3_3.set ((rd (rd_L8 l0 x5_2) x6_3) : Int).toNat true) true x5_2 (wrap64 (x6_3 + 1)))) = some r := by rw [← hbq27] at H; exact H
                      have Nbq27 := Aside0.mk hbq27
                      clear hbq27
                      by_cases c28 : (bq27 = true)
                      ·subst c28
                       replace H := sh_t H
                       have H' := Aside0.mk H
                       clear H
                       have p437 : 0 ≤ (x5_2 : Int) := of_decide_eq_true (by first | (with_reducible assumption) | assumption)
                       have q437 : x5_2 < (l0.length : Int) := of_decide_eq_true (by first | (with_reducible assumption) | assumption)
                       obtain ⟨ad437, A437_0, c437_0, e437, hx437_0, hl437_0, hi437_0⟩ := at_L8 HR0.out x5_2 p437 q437
                       cases e437
                       replace hx437_0 := (HB.out.cell (World.block_lt_of_cell? w _ hx437_0)).trans hx437_0
                       have HR437_0 := Aside0.mk hi437_0
                       have HC437_0 := Aside0.mk hl437_0
                       clear hi437_0 hl437_0
                       replace p437 := eq_true p437
                       replace q437 := eq_true q437
                       have p438 : 0 ≤ (x6_3 : Int) := of_decide_eq_true (by first | (with_reducible assumption) | assumption)
                       have q438 : x6_3 < ((rd_L8 l0 x5_2).length : Int) := of_decide_eq_true (by first | (with_reducible assumption) | assumption)
                       obtain ⟨ad438, e438, hx438_0⟩ := Kd.at_int HR437_0.out x6_3 p438 q438
                       cases e438
                       replace hx438_0 := (HB.out.cell (World.block_lt_of_cell? w _ hx438_0)).trans hx438_0
                       replace p438 := eq_true p438
                       replace q438 := eq_true q438
                       have p439 : 0 ≤ ((rd (rd_L8 l0 x5_2) x6_3) : Int) := of_decide_eq_true (by first | (with_reducible assumption) | assumption)
                       have q439 : (rd (rd_L8 l0 x5_2) x6_3) < (x3_3.length : Int) := of_decide_eq_true (by first | (with_reducible assumption) | assumption)
                       obtain ⟨ad439, e439, hx439_0⟩ := Kd.at_bool (Kd.R_reads' HO_3.out).2.2 (rd (rd_L8 l0 x5_2) x6_3) p439 q439
                       (try rw [← Nbq27.out] at hx439_0)
                       obtain rfl : (⟨go8, 0, none⟩ : Addr) = ad439 := (by injection e439)
                       (first | simp only [add_plain] at hx439_0 | simp only [add_at] at hx439_0 | simp only [Addr.add, Nat.zero_add] at hx439_0 | skip)
                       replace p439 := eq_true p439
                       replace q439 := eq_true q439
                       go_wp2
                       (try simp only [← hl3_3])
                       go_roundg kj14
                       case measure => have := HK1.out; have := HK2.out; have := HK3.out; have := HJ14.out; omega
                       case rel => exact ⟨(x3_3), (x4_3), (wrap64 (x6_3 + 1)), eq_now, eq_now, H', ⟨by have := HK1.out; have := HK2.out; have := HK3.out; have := HJ14.out; omega⟩, ⟨by (try simp only [hl3_1]); (try simp only [hl3_2]); (try simp only [hl3_3]); (with_reducible repeat (first | apply Kd.R_alloc | apply Kd.R_drewN | apply Kd.R_drew)); exact HO_3.out⟩, ⟨b_now⟩⟩
                      ·replace c28 := Bool.eq_false_iff.mpr c28
                       subst c28
                       replace H := sh_f H
                       obtain ⟨y442, hy442⟩ : ∃ y_ : List Bool, y_ = (x3_3.set ((rd (rd_L8 l0 x5_2) x6_3) : Int).toNat true) := ⟨_, rfl⟩
                       replace H : (stockaderef05_Reached.l2 kj14 l0 y442 true x5_2 (wrap64 (x6_3 + 1))) = some r := by first | (rw [hy442]; with_reducible exact H) | (have H2_ := (Option.bind_some _ _).symm.trans H; rw [hy442]; with_reducible exact H2_) | (have H2_ := (Option.bind_some _ _).symm.trans H; with_reducible exact H2_) | with_reducible exact H | (rw [hy442]; exact H) | exact H
                       have Ny442 := Aside0.mk hy442
                       clear hy442
                       have H' := Aside0.mk H
                       clear H
                       have p437 : 0 ≤ (x5_2 : Int) := of_decide_eq_true (by first | (with_reducible assumption) | assumption)
                       have q437 : x5_2 < (l0.length : Int) := of_decide_eq_true (by first | (with_reducible assumption) | assumption)
                       obtain ⟨ad437, A437_0, c437_0, e437, hx437_0, hl437_0, hi437_0⟩ := at_L8 HR0.out x5_2 p437 q437
                       cases e437
                       replace hx437_0 := (HB.out.cell (World.block_lt_of_cell? w _ hx437_0)).trans hx437_0
                       have HR437_0 := Aside0.mk hi437_0
                       have HC437_0 := Aside0.mk hl437_0
                       clear hi437_0 hl437_0
                       replace p437 := eq_true p437
                       replace q437 := eq_true q437
                       have p438 : 0 ≤ (x6_3 : Int) := of_decide_eq_true (by first | (with_reducible assumption) | assumption)
                       have q438 : x6_3 < ((rd_L8 l0 x5_2).length : Int) := of_decide_eq_true (by first | (with_reducible assumption) | assumption)
                       obtain ⟨ad438, e438, hx438_0⟩ := Kd.at_int HR437_0.out x6_3 p438 q438
                       cases e438
                       replace hx438_0 := (HB.out.cell (World.block_lt_of_cell? w _ hx438_0)).trans hx438_0
                       replace p438 := eq_true p438
                       replace q438 := eq_true q438
                       have p439 : 0 ≤ ((rd (rd_L8 l0 x5_2) x6_3) : Int) := of_decide_eq_true (by first | (with_reducible assumption) | assumption)
                       have q439 : (rd (rd_L8 l0 x5_2) x6_3) < (x3_3.length : Int) := of_decide_eq_true (by first | (with_reducible assumption) | assumption)
                       obtain ⟨ad439, e439, hx439_0⟩ := Kd.at_bool (Kd.R_reads' HO_3.out).2.2 (rd (rd_L8 l0 x5_2) x6_3) p439 q439
                       (try rw [← Nbq27.out] at hx439_0)
                       obtain rfl : (⟨go8, 0, none⟩ : Addr) = ad439 := (by injection e439)
                       (first | simp only [add_plain] at hx439_0 | simp only [add_at] at hx439_0 | simp only [Addr.add, Nat.zero_add] at hx439_0 | skip)
                       replace p439 := eq_true p439
                       replace q439 := eq_true q439
                       have p440 : 0 ≤ (x5_2 : Int) := of_decide_eq_true (by first | (with_reducible assumption) | assumption)
                       have q440 : x5_2 < (l0.length : Int) := of_decide_eq_true (by first | (with_reducible assumption) | assumption)
                       obtain ⟨ad440, A440_0, c440_0, e440, hx440_0, hl440_0, hi440_0⟩ := at_L8 HR0.out x5_2 p440 q440
                       obtain rfl : ad437 = ad440 := (by injection e440)
                       replace hx440_0 := (HB.out.cell (World.block_lt_of_cell? w _ hx440_0)).trans hx440_0
                       have HR440_0 := Aside0.mk hi440_0
                       have HC440_0 := Aside0.mk hl440_0
                       clear hi440_0 hl440_0
                       replace p440 := eq_true p440
                       replace q440 := eq_true q440
                       have ea_ := Option.some.inj (hx437_0.symm.trans hx440_0)
                       injection ea_ with ea_ en_ ec_
                       subst ea_
                       subst ec_
                       clear en_
                       have p441 : 0 ≤ (x6_3 : Int) := of_decide_eq_true (by first | (with_reducible assumption) | assumption)
                       have q441 : x6_3 < ((rd_L8 l0 x5_2).length : Int) := of_decide_eq_true (by first | (with_reducible assumption) | assumption)
                       obtain ⟨ad441, e441, hx441_0⟩ := Kd.at_int HR440_0.out x6_3 p441 q441
                       cases e441
                       replace hx441_0 := (HB.out.cell (World.block_lt_of_cell? w _ hx441_0)).trans hx441_0
                       replace p441 := eq_true p441
                       replace q441 := eq_true q441
                       have p29 : 0 ≤ ((rd (rd_L8 l0 x5_2) x6_3) : Int) := of_decide_eq_true (by first | (with_reducible assumption) | assumption)
                       have q29 : ((rd (rd_L8 l0 x5_2) x6_3) : Int) < ((x3_3.length : Int) : Int) := of_decide_eq_true (by first | (with_reducible assumption) | assumption)
                       obtain ⟨hx29_0, hf29_0⟩ := Kd.R_celln false HO_3.out ((rd (rd_L8 l0 x5_2) x6_3) : Int) p29 q29
                       replace p29 := eq_true p29
                       replace q29 := eq_true q29
                       have HP30 := Kd.R_putg HO_3.out ((rd (rd_L8 l0 x5_2) x6_3) : Int) true
                       go_wp2_with (first | ((with_reducible refine gate_store (t := 4) (p := 57) rfl ?_); refine store_event (t := 4) (p := 57) (v := ?vo_w31) (w1 := (wc.setCell ⟨go8, ((rd (rd_L8 l0 x5_2) x6_3) : Int).toNat, none⟩ (.bool true))) ?hg ?ho ?hn ?hr ?_; (case ho => rfl); (case hg => rfl); (case hn => rfl); (case hr => first | (go_simp; done) | (go_simp; rfl)); intro w31 hw; have hg : wc.grownBy w31 (some go8) := (by rw [hw]; exact HP30.2); have hp_ : Kd.R Kd.bool 4 w31 w.heap.size (fun _ => True) (.slice (some ⟨go8, 0, none⟩) x3_3.length co8) y442 := (by rw [hw, Ny442.out]; exact HP30.1); clear HP30; replace HO_3 := Aside0.mk (hp_); replace HB := Aside0.mk ((by rw [hw]; exact below_set (HB.out) GB8.out : Below w.heap.size w w31)); clear hg hw hp_))
                       (try simp only [← hl3_3])
                       go_roundg kj14
                       case measure => have := HK1.out; have := HK2.out; have := HK3.out; have := HJ14.out; omega
                       case rel => exact ⟨(y442), (true), (wrap64 (x6_3 + 1)), eq_now, eq_now, H', ⟨by have := HK1.out; have := HK2.out; have := HK3.out; have := HJ14.out; omega⟩, ⟨by (try simp only [hl3_1]); (try simp only [hl3_2]); (try simp only [hl3_3]); (with_reducible repeat (first | apply Kd.R_alloc | apply Kd.R_drewN | apply Kd.R_drew)); exact HO_3.out⟩, ⟨b_now⟩⟩
                     ·rw [if_neg c26] at H
                      exact absurd H (by simp)
                    ·rw [if_neg c25] at H
                     exact absurd H (by simp)
                   ·rw [if_neg c24] at H
                    exact absurd H (by simp)
                  ·rw [if_neg c23] at H
                   exact absurd H (by simp)
                 ·rw [if_neg c22] at H
                  exact absurd H (by simp)
                ·rw [if_neg c21] at H
                 exact absurd H (by simp)
               ·replace c20 := Bool.eq_false_iff.mpr c20
                subst c20
                replace H := sh_f H
                have H' := Aside0.mk H
                clear H
                go_wp2
                (try simp only [← hl3_2, ← hl3_3])
                go_roundg kj14
                case measure => have := HK1.out; have := HK2.out; have := HK3.out; have := HJ14.out; omega
                case rel => exact ⟨(x3_3), (x4_3), (wrap64 (x5_2 + 1)), eq_now, eq_now, H', ⟨by have := HK1.out; have := HK2.out; have := HK3.out; have := HJ14.out; omega⟩, ⟨by (try simp only [hl3_1]); (try simp only [hl3_2]); (try simp only [hl3_3]); (with_reducible repeat (first | apply Kd.R_alloc | apply Kd.R_drewN | apply Kd.R_drew)); exact HO_3.out⟩, ⟨b_now⟩⟩
          ·rw [if_neg c14] at H
           have c14b0 : decide (x5_2 < (l0.length : Int)) = false := decide_eq_false c14
           clear c14
           have H' := Aside0.mk H
           clear H
           go_wp2
           (try simp only [← hl3_1, ← hl3_2])
           go_roundg k2
           case measure => have := HK1.out; have := HK2.out; omega
           case rel => exact ⟨(x3_2), (x4_2), eq_now, H', ⟨by have := HK1.out; have := HK2.out; omega⟩, ⟨by (try simp only [hl3_1]); (try simp only [hl3_2]); (with_reducible repeat (first | apply Kd.R_alloc | apply Kd.R_drewN | apply Kd.R_drew)); exact HO_3.out⟩, ⟨b_now⟩⟩
       ·replace c13 := Bool.eq_false_iff.mpr c13
        subst c13
        replace H := sh_f H
        obtain rfl := Option.some.inj H
        go_wp2
        go_ret
        exact ⟨_, ret_now, by (with_reducible repeat (first | apply Kd.R_alloc | apply Kd.R_drewN | apply Kd.R_drew)); exact HO_3.out, b_now⟩
    ·rw [if_neg c7] at H
     exact absurd H (by simp)
  ·rw [if_neg c3] at H
   exact absurd H (by simp)
 ·rw [if_neg c2] at H
  exact absurd H (by simp)

end Go.Proofs.YtkjcjlegokdpdaaDoor.P
