/- Made by this session's driver over the kit's printer: for each Go function a Lean function with the same answers, and a proof that the Go call comes to these answers; no conditions but the ones each theorem names. -/
import Derived.Test.YtighficpbplkhaaDoorPx0
import Derived.Test.YtighficpbplkhaaDoorPx10
import Derived.Test.YtighficpbplkhaaDoorPxXXCn
import Derived.Test.YtighficpbplkhaaDoorPxXXTe
import Derived.Test.YtighficpbplkhaaDoorPxXXCb
import Derived.Test.YtighficpbplkhaaDoorPxXXCu
import Derived.Test.YtighficpbplkhaaDoorPxXXSp
namespace Go.Proofs.YtighficpbplkhaaDoor.P
open Go.RowKit Go.Proofs.YtighficpbplkhaaDoorW.PrintWords Go.Proofs.YtighficpbplkhaaDoorW.PrintLast Go.Proofs.YtighficpbplkhaaDoorW.PrintMore
attribute [local go_sem] max2_int min2_int max_two min_two max_three min_three max_four min_four   -- for this text's walks alone
set_option linter.unusedVariables false
set_option linter.unusedSimpArgs false

/-! ### rule_rule: function 38 -/
mutual
def rule_rule.j0 : Nat → ByteArray → ByteArray → Int → Bool → Option ((List (S50)) × Int × Bool)
 | 0, _, _, _, _ => none
 | k + 1, x0, x6, x9, x30 => if x30 = true then (some (([] : List (S50)), 0, false)) else (if x6.toList = ([97, 110, 121] : List UInt8) then (if (([] : List (S50)).length : Int) ≤ 8 then ((rule_line.f k ([] : List (S50)) ((x9) % 4294967296)).bind fun t211 => (some (([] : List (S50)), (x9) % 4294967296, (t211.toList == x0.toList)))) else (some (([] : List (S50)), (x9) % 4294967296, false))) else ((strings_Split.f x6 (⟨#[44, 32]⟩ : ByteArray)).bind fun t212 => (rule_rule.l0 k x0 t212 (t212.length : Int) 0 ([] : List (S50)) ((x9) % 4294967296))))
def rule_rule.l0 : Nat → ByteArray → List ByteArray → Int → Int → List (S50) → Int → Option ((List (S50)) × Int × Bool)
 | 0, _, _, _, _, _, _ => none
 | k + 1, x0, x38, x39, x40, x206000, x206001 => if x40 < x39 then (if 0 ≤ x40 then (if x40 < (x38.length : Int) then ((rule_test.f k (rdOf ByteArray.empty x38 x40)).bind fun bt216 => (if bt216.2.2.2.2.2.2.2 = true then (if x206000.length < 2513169434916 then (rule_rule.l0 k x0 x38 x39 (wrap64 (x40 + 1)) (x206000 ++ [(⟨bt216.1, bt216.2.1, bt216.2.2.1, bt216.2.2.2.1, bt216.2.2.2.2.1, bt216.2.2.2.2.2.1, bt216.2.2.2.2.2.2.1⟩ : S50)]) x206001) else (none)) else (some (([] : List (S50)), 0, false)))) else (none)) else (none)) else (if (x206000.length : Int) ≤ 8 then ((rule_line.f k x206000 x206001).bind fun t228 => (some (x206000, x206001, (t228.toList == x0.toList)))) else (some (x206000, x206001, false)))
end
def rule_rule.f (k : Nat) (a0 : ByteArray) : Option ((List (S50)) × Int × Bool) := (strings_Cut.f a0 (⟨#[32, 45, 62, 32]⟩ : ByteArray)).bind fun bt206 => ((rule_count.f bt206.2.1).bind fun t209 => ((strconv_toError.f bt206.2.1).bind fun t210 => (if bt206.2.2 = true then (if t210 = true then (rule_rule.j0 k a0 bt206.1 t209 true) else (rule_rule.j0 k a0 bt206.1 t209 (decide (t209 ≥ 4294967296)))) else (rule_rule.j0 k a0 bt206.1 t209 true))))
theorem rule_rule.mono_l : ∀ k, (∀ y0 y1 y2 y3, LeO (rule_rule.j0 k y0 y1 y2 y3) (rule_rule.j0 (k + 1) y0 y1 y2 y3)) ∧ (∀ y0 y1 y2 y3 y4 y5, LeO (rule_rule.l0 k y0 y1 y2 y3 y4 y5) (rule_rule.l0 (k + 1) y0 y1 y2 y3 y4 y5))
 | 0 => ⟨fun _ _ _ _ r h => by simp [rule_rule.j0] at h, fun _ _ _ _ _ _ r h => by simp [rule_rule.l0] at h⟩
 | k + 1 => by
  obtain ⟨ih0, ih1⟩ := rule_rule.mono_l k
  refine ⟨?_, ?_⟩
  ·intro y0 y1 y2 y3
   unfold rule_rule.j0
   repeat' first
   | (with_reducible exact ih0 _ _ _ _)
   | (with_reducible exact ih1 _ _ _ _ _ _)
   | (with_reducible exact rule_line.mono _ _ _)
   | (with_reducible exact rule_test.mono _ _)
   | (with_reducible exact LeO.refl _)
   | (with_reducible exact LeO.none _)
   | (with_reducible refine LeO.ite ?_ ?_)
   | (with_reducible refine LeO.bind ?_ (fun _ => ?_))
   | exact ih0 _ _ _ _
   | exact ih1 _ _ _ _ _ _
   | exact rule_line.mono _ _ _
   | exact rule_test.mono _ _
   | exact LeO.none _
   | refine LeO.ite ?_ ?_
   | refine LeO.bind ?_ (fun _ => ?_)
  ·intro y0 y1 y2 y3 y4 y5
   unfold rule_rule.l0
   repeat' first
   | (with_reducible exact ih0 _ _ _ _)
   | (with_reducible exact ih1 _ _ _ _ _ _)
   | (with_reducible exact rule_line.mono _ _ _)
   | (with_reducible exact rule_test.mono _ _)
   | (with_reducible exact LeO.refl _)
   | (with_reducible exact LeO.none _)
   | (with_reducible refine LeO.ite ?_ ?_)
   | (with_reducible refine LeO.bind ?_ (fun _ => ?_))
   | exact ih0 _ _ _ _
   | exact ih1 _ _ _ _ _ _
   | exact rule_line.mono _ _ _
   | exact rule_test.mono _ _
   | exact LeO.none _
   | refine LeO.ite ?_ ?_
   | refine LeO.bind ?_ (fun _ => ?_)
theorem rule_rule.mono : ∀ a0 k, LeO (rule_rule.f k a0) (rule_rule.f (k + 1) a0) := by
 intro a0 k
 obtain ⟨ih0, ih1⟩ := rule_rule.mono_l k
 unfold rule_rule.f
 repeat' first
   | (with_reducible exact ih0 _ _ _ _)
   | (with_reducible exact ih1 _ _ _ _ _ _)
   | (with_reducible exact rule_line.mono _ _ _)
   | (with_reducible exact rule_test.mono _ _)
   | (with_reducible exact LeO.refl _)
   | (with_reducible exact LeO.none _)
   | (with_reducible refine LeO.ite ?_ ?_)
   | (with_reducible refine LeO.bind ?_ (fun _ => ?_))
   | exact ih0 _ _ _ _
   | exact ih1 _ _ _ _ _ _
   | exact rule_line.mono _ _ _
   | exact rule_test.mono _ _
   | exact LeO.none _
   | refine LeO.ite ?_ ?_
   | refine LeO.bind ?_ (fun _ => ?_)
def rule_rule.T17 : Bool × List (List Nat × List Nat) := (true, [([], []), ([], []), ([1], [1]), ([2], [2]), ([3], [3]), ([4], [4]), ([5], [5]), ([6, 5, 5], [5, 6]), ([5], [5]), ([7, 8, 5], [5, 7, 8]), ([5, 9], [5, 9]), ([0, 7, 0], [0]), ([10, 11, 0, 1, 2, 3, 4, 5, 6, 7, 8, 9, 10, 11], [10])])
def rule_rule.B17 : List Nat := [0, 0, 2, 6, 14, 30, 62, 126, 62, 510, 1022, 255, 4095]
theorem rule_rule.tab17 : rtab .any (opsOf Tryd.f38 17) = rule_rule.T17 := by kernel_rfl
theorem rule_rule.bits17 : waitsOk rule_rule.T17.2 rule_rule.B17 = true := by kernel_rfl
set_option maxHeartbeats 8000000 in
set_option maxRecDepth 100000 in
theorem rule_rule.calls (k : Nat) (a0 : ByteArray) (r1 : List (S50)) (r2 : Int) (r3 : Bool) (w : World) (hrG0 : Kd.C kGF w (some ⟨0, 0, none⟩) gl0.length gl0) (h : rule_rule.f k a0 = some (r1, r2, r3)) :
  Calls Tryd.prog 38 #[.string a0] w fun e w' => ∃ v0_ : Value, e = .returned (.tuple #[.agg #[v0_, .int .u32 r2], .bool r3]) ∧ Kd.R k50 50 w' w.heap.size (fun _ => True) v0_ r1 ∧ Below w.heap.size w w' := by
 have hu53 := Tryd.underlying53
 have hu50 := Tryd.underlying50
 have HRG0 := Aside0.mk hrG0
 clear hrG0
 have HB := Aside0.mk (Below.refl w.heap.size w)
 have H : ((strings_Cut.f a0 (⟨#[32, 45, 62, 32]⟩ : ByteArray)).bind fun bt206 => ((rule_count.f bt206.2.1).bind fun t209 => ((strconv_toError.f bt206.2.1).bind fun t210 => (if bt206.2.2 = true then (if t210 = true then (rule_rule.j0 k a0 bt206.1 t209 true) else (rule_rule.j0 k a0 bt206.1 t209 (decide (t209 ≥ 4294967296)))) else (rule_rule.j0 k a0 bt206.1 t209 true))))) = some (r1, r2, r3) := h
 clear h
 replace H := Option.bind_eq_some_iff.mp H; obtain ⟨⟨t206, t207, t208⟩, A20, H⟩ := H; try dsimp only at H
 have A2 := Aside0.mk A20
 clear A20
 replace H := Option.bind_eq_some_iff.mp H; obtain ⟨t209, A30, H⟩ := H; try dsimp only at H
 have A3 := Aside0.mk A30
 clear A30
 replace H := Option.bind_eq_some_iff.mp H; obtain ⟨t210, A40, H⟩ := H; try dsimp only at H
 have A4 := Aside0.mk A40
 clear A40
 have HC5 := Aside0.mk H
 clear H
 have ha3 : Aside0 (t207.size ≤ 281474976710656) := ⟨by have h_ := A3.out; unfold rule_count.f at h_; split at h_; assumption; exact absurd h_ (by simp)⟩
 have ea3 : Aside0 (cntN t207 = t209) := ⟨by have h_ := A3.out; unfold rule_count.f at h_; split at h_; exact Option.some.inj h_; exact absurd h_ (by simp)⟩
 have ea4 : Aside0 (cntB t207 = t210) := ⟨Option.some.inj A4.out⟩
 go_enter Tryd.func38, Tryd.ntmps38
 go_upto_region 3 with (first | ((with_reducible refine gate_dst (N := 2) rfl ?_); refine sh_box 2 #[.slice none 0 0, .int .u32 0] 53 ?_; intro gb204 hg w6 hbox hb; have GE204 := sh_z (w := w) hg; replace HB := sh_b (w := w) hb; have BK204 := Aside0.mk (hbox); clear hb hbox hg) | ((with_reducible refine gate_dst (N := 4) rfl ?_); refine sh_box 4 #[.slice none 0 0, .int .u32 0] 53 ?_; intro gb205 hg w7 hbox hb; have GE205 := sh_z (w := w) hg; have NB204_205 := sh_n BK204 hg; have NB205_204 := sh_s NB204_205; replace BK204 := sh_k BK204 hb; replace HB := sh_b (w := w) hb; have BK205 := Aside0.mk (hbox); clear hb hbox hg) | ((with_reducible refine gate_dst (N := 5) rfl ?_); refine sh_box 5 #[.bool false] 4 ?_; intro gb5 hg w7b hbox hb; have GE5 := sh_z (w := w) hg; have NX2 := sh_n BK204 hg; have NX4 := sh_n BK205 hg; replace BK204 := sh_k BK204 hb; replace BK205 := sh_k BK205 hb; replace HB := sh_b (w := w) hb; have BK5 := Aside0.mk hbox; have z5 := blk_all1 BK5.out; clear hb hbox hg))
 refine name_world (fun W => W.heap[gb204]? = some (.cells #[(.slice none 0 0), .int .u32 0] 53 (0, 0)) ∧ W.heap[gb205]? = some (.cells #[(.slice none 0 0), .int .u32 0] 53 (0, 0)) ∧ W.heap[gb5]? = some (.cells #[.bool false] 4 (0, 0)) ∧ Below w.heap.size w W) ⟨blk_far BK204.out (p := ⟨gb5, 0, none⟩) NX2.out _, blk_far BK205.out (p := ⟨gb5, 0, none⟩) NX4.out _, blk_put BK5.out 0 _ rfl, HB.out.setCell (p := ⟨gb5, 0, none⟩) GE5.out _⟩ ?_
 clear BK204 BK205 BK5 HB z5
 rintro w7c ⟨k_0, k_1, k_2, k_3⟩
 have BK204 := Aside0.mk k_0
 have BK205 := Aside0.mk k_1
 have BK5 := Aside0.mk k_2
 have HB := Aside0.mk k_3
 clear k_0 k_1 k_2 k_3
 go_upto_region 5 with (first | ((with_reducible refine gate_callee (f := 37) rfl ?_); refine sh_call (some 16) Tryd.func37 #[.string a0, .string (⟨#[32, 45, 62, 32]⟩ : ByteArray)] ?_; (with_reducible refine (strings_Cut.calls a0 (⟨#[32, 45, 62, 32]⟩ : ByteArray) t206 t207 t208 _ ?side1 A2.out).mono ?_); (case side1 => repeat (first | exact (Kd.C_below HRG0.out HB.out) | (with_reducible refine Kd.C_alloc ?_ _) | (with_reducible refine Kd.C_drewN ?_ _) | (with_reducible refine Kd.C_drew ?_))); rintro e w' ⟨rfl, ⟨nd, rfl⟩⟩; refine ⟨_, rfl, ?_⟩) | ((with_reducible refine gate_callee (f := 55) rfl ?_); refine sh_call (some 21) Tryd.func55 #[.string t207, .pointer (some ⟨gb5, 0, none⟩)] ?_; (with_reducible refine (count_calls t207 ha3.out false gb5 _ ?sideg ?sideb).mono ?_); (case sideg => exact (GF.of HRG0.out).below (pw_below_drewN HB.out nd)); (case sideb => exact blk_drewN BK5.out nd); rintro e w8 ⟨he, htk⟩; rw [ea3.out] at he; subst he; rw [ea4.out, Bool.false_or] at htk; refine ⟨_, rfl, ?_⟩; replace BK204 := Aside0.mk ((htk.2.2.2 gb204 (blk_lt (blk_drewN BK204.out nd)) NX2.out (by simp)).trans (blk_drewN BK204.out nd)); replace BK205 := Aside0.mk ((htk.2.2.2 gb205 (blk_lt (blk_drewN BK205.out nd)) NX4.out (by simp)).trans (blk_drewN BK205.out nd)); replace HB := Aside0.mk ((pw_below_drewN HB.out nd).trans (htk.2.1.mono GE5.out)); clear BK5; have BK5 := Aside0.mk htk.1; have z5 := blk_all1 BK5.out; clear htk))
 (try simp only [Act.put, List.setIfInBounds_toArray, List.set_cons_zero, List.set_cons_succ])
 go_cut [30] (fun v30 wc => ∃ (kq : Nat) (x30_4 : Bool), v30 = .bool x30_4 ∧ Aside0 (rule_rule.j0 kq a0 t206 t209 x30_4 = some (r1, r2, r3)) ∧ Aside0 (kq ≤ k) ∧ Aside0 (wc.heap[gb204]? = some (.cells #[(.slice none 0 0), .int .u32 0] 53 (0, 0))) ∧ Aside0 (wc.heap[gb205]? = some (.cells #[(.slice none 0 0), .int .u32 0] 53 (0, 0))) ∧ Aside0 (Below w.heap.size w wc))
 case first =>
  have H := HC5.out
  clear HC5
  by_cases c9 : t208 = true
  ·subst c9
   replace H := sh_t H
   by_cases c10 : t210 = true
   ·subst c10
    replace H := sh_t H
    have H' := Aside0.mk H
    clear H
    go_wp2
    go_meet
    case rel => exact ⟨_, (true), eq_now, H', ⟨by first | omega | exact Nat.le_refl _⟩, ⟨bk_now⟩, ⟨bk_now⟩, ⟨b_now⟩⟩
   ·replace c10 := Bool.eq_false_iff.mpr c10
    subst c10
    replace H := sh_f H
    have H' := Aside0.mk H
    clear H
    go_wp2
    go_meet
    case rel => exact ⟨_, (decide (t209 ≥ 4294967296)), eq_now, H', ⟨by first | omega | exact Nat.le_refl _⟩, ⟨bk_now⟩, ⟨bk_now⟩, ⟨b_now⟩⟩
  ·replace c9 := Bool.eq_false_iff.mpr c9
   subst c9
   replace H := sh_f H
   have H' := Aside0.mk H
   clear H
   go_wp2
   go_meet
   case rel => exact ⟨_, (true), eq_now, H', ⟨by first | omega | exact Nat.le_refl _⟩, ⟨bk_now⟩, ⟨bk_now⟩, ⟨b_now⟩⟩
 case rest =>
  clear HC5
  clear z5 BK5
  obtain ⟨kq, x30_4, rfl, HA, HJ4, BK204, BK205, HB⟩ := hcut
  cases kq with
  | zero => exact absurd HA.out (by simp [rule_rule.j0])
  | succ kj4 =>
   have H := HA.out
   clear HA
   simp only [rule_rule.j0] at H
   by_cases c11 : x30_4 = true
   ·subst c11
    replace H := sh_t H
    simp only [Option.some.injEq, Prod.mk.injEq] at H
    obtain ⟨rfl, rfl, rfl⟩ := H
    have hnb12 := NB204_205.out
    have hnc12 := NB205_204.out
    have hcz13 := blk_all2 BK204.out
    go_wp2
    refine bodyPost_ret (results_ct rfl _ _ gb204 53 #[.slice none 0 0, .int .u32 0] (0, 0) _ rfl bk_now Tryd.underlying53 rfl (by kernel_rfl)) rfl ?_
    exact ⟨_, ret_now, by first | exact Kd.R_nil _ _ _ _ _ | exact Kd.N_nil _ _ _ _ _ | exact Kd.V_nil _ _ _ _ _ | exact Kd.Q_nil _ _ _ _ _ | exact Kd.S_nil _ _ _ _ _, b_now⟩
   ·replace c11 := Bool.eq_false_iff.mpr c11
    subst c11
    replace H := sh_f H
    by_cases c14 : t206.toList = ([97, 110, 121] : List UInt8)
    ·rw [if_pos c14] at H
     have c14b0 : (t206.toList == ([97, 110, 121] : List UInt8)) = true := beq_iff_eq.mpr c14
     have c14b1 : (t206.toList != ([97, 110, 121] : List UInt8)) = false := bne_eq_false_iff_eq.mpr c14
     clear c14
     by_cases c15 : (([] : List (S50)).length : Int) ≤ 8
     ·rw [if_pos c15] at H
      have c15b0 : decide ((([] : List (S50)).length : Int) ≤ 8) = true := decide_eq_true c15
      have c15b1 : decide (([] : List (S50)).length ≤ 8) = true := decide_eq_true (by omega)
      clear c15
      replace H := Option.bind_eq_some_iff.mp H; obtain ⟨t211, A160, H⟩ := H; try dsimp only at H
      have A16 := Aside0.mk A160
      clear A160
      simp only [Option.some.injEq, Prod.mk.injEq] at H
      obtain ⟨rfl, rfl, rfl⟩ := H
      have hnb17 := NB205_204.out
      have hnc17 := NB204_205.out
      have hcz18 := blk_all2 BK205.out
      try go_wp2
      have n0_ : Aside0 ((wc.setCell ⟨gb205, 1, none⟩ (.int .u32 ((t209) % 4294967296))).heap[gb204]? = some (.cells #[.slice none 0 0, .int .u32 0] 53 (0, 0))) := ⟨bk_now⟩
      have n1_ : Aside0 ((wc.setCell ⟨gb205, 1, none⟩ (.int .u32 ((t209) % 4294967296))).heap[gb205]? = some (.cells #[.slice none 0 0, .int .u32 ((t209) % 4294967296)] 53 (0, 0))) := ⟨bk_now⟩
      have n2_ : Aside0 (Below w.heap.size w (wc.setCell ⟨gb205, 1, none⟩ (.int .u32 ((t209) % 4294967296)))) := ⟨b_now⟩
      (try clear BK204)
      (try clear BK205)
      (try clear HB)
      generalize (wc.setCell ⟨gb205, 1, none⟩ (.int .u32 ((t209) % 4294967296))) = w19 at n0_ n1_ n2_ ⊢
      have BK204 := n0_
      have BK205 := n1_
      have HB := n2_
      clear n0_ n1_ n2_
      have n0_ := Aside0.mk (blk_drew BK204.out)
      have n1_ := Aside0.mk (blk_drew BK205.out)
      have n2_ := Aside0.mk (below_drew1 HB.out)
      clear BK204
      clear BK205
      clear HB
      have BK204 := n0_
      have BK205 := n1_
      have HB := n2_
      clear n0_ n1_ n2_
      refine start_ (n := 13) (S := fun w' => w'.cell? ⟨gb205, 0, none⟩ = some (.slice none 0 0) ∧ w'.cell? ⟨gb205, 1, none⟩ = some (.int .u32 ((t209) % 4294967296))) (ds := []) (fl 0 13) (by kernel_rfl) rfl rfl ⟨(blk_cell BK205.out 0).trans rfl, (blk_cell BK205.out 1).trans rfl⟩ (fun hHeld => ?_); refine with_tabW rule_rule.tab17 rule_rule.bits17 (fun HT_ HW_ => ?_)
      generalize w19.drew = w20 at BK204 BK205 HB hHeld ⊢
      refine pure_ (i := 1) (N := some 60) (v := ?_) (a' := ?_) (fm 13 2) rfl rfl (any_of HT_.out (by kernel_rfl)) (fun _ _ _ h => h) (Or.inl ⟨by rfl, ?_⟩) ?_ ?_
      rotate_left; exact ga_; rotate_left; exact gb_
      refine take_ (i := 0) (N := some 59) (v := ?_) (a' := ?_) (fl 2 11) rfl rfl (take_ofW HT_.out HW_.out (by kernel_rfl)) (fun _ _ _ h => h) (Or.inl ⟨by rfl, ?_⟩) hHeld ?_ ?_
      rotate_left; exact ga2_; rotate_left; exact gb_
      refine take_ (i := 2) (N := some 61) (v := ?_) (a' := ?_) (fl 3 10) rfl rfl (take_ofW HT_.out HW_.out (by kernel_rfl)) (fun _ _ _ h => h) (Or.inl ⟨by rfl, ?_⟩) hHeld ?_ ?_
      rotate_left; exact ga2_; rotate_left; exact gb_
      refine pure_ (i := 3) (N := some 62) (v := ?_) (a' := ?_) (fl 4 9) rfl rfl (any_of HT_.out (by kernel_rfl)) (fun _ _ _ h => h) (Or.inl ⟨by rfl, ?_⟩) ?_ ?_
      rotate_left; exact ga_; rotate_left; exact gb_
      refine pure_ (i := 4) (N := some 63) (v := ?_) (a' := ?_) (fl 5 8) rfl rfl (any_of HT_.out (by kernel_rfl)) (fun _ _ _ h => h) (Or.inl ⟨by rfl, ?_⟩) ?_ ?_
      rotate_left; exact ga_; rotate_left; exact gb_
      refine pure_ (i := 5) (N := some 64) (v := ?_) (a' := ?_) (fl 6 7) rfl rfl (any_of HT_.out (by kernel_rfl)) (fun _ _ _ h => h) (Or.inl ⟨by rfl, ?_⟩) ?_ ?_
      rotate_left; exact ga_; rotate_left; exact gb_
      refine pure_ (i := 8) (N := some 67) (v := ?_) (a' := ?_) (fm 13 319) rfl rfl (any_of HT_.out (by kernel_rfl)) (fun _ _ _ h => h) (Or.inl ⟨by rfl, ?_⟩) ?_ ?_
      rotate_left; exact ga_; rotate_left; exact gb_
      refine take_ (i := 6) (N := some 65) (v := ?_) (a' := ?_) (fm 13 383) rfl rfl (take_ofW HT_.out HW_.out (by kernel_rfl)) (fun _ _ _ h => h) (Or.inl ⟨by rfl, ?_⟩) hHeld ?_ ?_
      rotate_left; exact ga2_; rotate_left; exact gb_
      refine one_ (i := 7) (N := some 66) (fl 9 4) rfl rfl (one_of HT_.out (by kernel_rfl)) (by decide) (fun K hK => ?_)
      refine goes_ Tryd.func31 (by kernel_rfl) rfl #[.agg #[.slice none 0 0, .int .u32 ((t209) % 4294967296)]] (by rfl) rfl rfl (by (try simp only [List.map_toArray, List.map_cons, List.map_nil]); first | done | rfl | (simp only [List.length_drop, List.length_take]; rfl)) ?_
      refine (rule_line.calls kj4 _ _ ([] : List (S50)) ((t209) % 4294967296) t211 _ ?side1 ?side2 ?side3 A16.out).mono ?_
      (case side1 => exact Kd.C_nil _ _)
      (case side2 => exact Nat.le_refl _)
      (case side3 => repeat (first | exact (Kd.C_below HRG0.out HB.out) | (with_reducible refine Kd.C_alloc ?_ _) | (with_reducible refine Kd.C_drewN ?_ _) | (with_reducible refine Kd.C_drew ?_)))
      rintro e w21 ⟨rfl, hb⟩
      refine ⟨_, rfl, ?_⟩
      have n0_ := Aside0.mk (blk_below (g := gb204) (o := .cells #[.slice none 0 0, .int .u32 0] 53 (0, 0)) bk_now hb)
      have n1_ := Aside0.mk (blk_below (g := gb205) (o := .cells #[.slice none 0 0, .int .u32 ((t209) % 4294967296)] 53 (0, 0)) bk_now hb)
      have n2_ := Aside0.mk (below_step b_now hb)
      clear BK204
      clear BK205
      clear HB
      have BK204 := n0_
      have BK205 := n1_
      have HB := n2_
      clear n0_ n1_ n2_
      (try clear hb)
      (try clear hb2)
      (try clear hk)
      (try clear hi)
      refine hK.out _ _ ⟨(blk_cell BK205.out 0).trans rfl, (blk_cell BK205.out 1).trans rfl⟩ (fun hHeld => ?_)
      clear hK K
      refine norm_ (a' := ?_) ?_ ?_
      rotate_left
      ·show Act.put _ (some 66) _ = _
       simp only [Act.put, List.setIfInBounds_toArray, List.set_cons_zero, List.set_cons_succ, i64_w, i32_w]
       rfl
      refine pure_ (i := 9) (N := some 68) (v := ?_) (a' := ?_) (fl 10 3) rfl rfl (any_of HT_.out (by kernel_rfl)) (fun _ _ _ h => h) (Or.inl ⟨by rfl, ?_⟩) ?_ ?_
      rotate_left; exact ga_; rotate_left; exact gb_
      refine pure_ (i := 10) (N := some 69) (v := ?_) (a' := ?_) (fl 11 2) rfl rfl (any_of HT_.out (by kernel_rfl)) (fun _ _ _ h => h) (Or.inl ⟨by rfl, ?_⟩) ?_ ?_
      rotate_left; exact ga_; rotate_left; exact gb_
      refine one_ (i := 11) (N := none) (fl 12 1) rfl rfl (one_of HT_.out (by kernel_rfl)) (by decide) (fun K hK => ?_)
      have hs22 : w21.cell? ⟨gb204, 0, none⟩ = some (.slice none 0 0) := (blk_cell BK204.out 0).trans rfl
      have hfs22 := blk_frozen BK204.out 0
      have hns22_1 := NB205_204.out
      have hms22_1 := NB204_205.out
      have hs23 : w21.cell? ⟨gb204, 1, none⟩ = some (.int .u32 0) := (blk_cell BK204.out 1).trans rfl
      have hfs23 := blk_frozen BK204.out 1
      have hns23_1 := NB205_204.out
      have hms23_1 := NB204_205.out
      refine skip_ (w1 := ?_) (by rfl) rfl ?_ ?_
      rotate_left
      ·go_simp
       rfl
      refine hK.out _ _ ⟨((cell_far (p := ⟨gb204, _, none⟩) NB205_204.out _).trans (((cell_far (p := ⟨gb204, _, none⟩) NB205_204.out _).trans (hHeld.1)))), ((cell_far (p := ⟨gb204, _, none⟩) NB205_204.out _).trans (((cell_far (p := ⟨gb204, _, none⟩) NB205_204.out _).trans (hHeld.2))))⟩ (fun hHeld => ?_)
      clear hK K
      refine pure_ (i := 12) (N := some 3) (v := ?_) (a' := ?_) (fl 13 0) rfl rfl (any_of HT_.out (by kernel_rfl)) (fun _ _ _ h => h) (Or.inl ⟨by rfl, ?_⟩) ?_ ?_
      rotate_left; exact ga_; rotate_left; exact gb_
      refine done_ (done_of HT_.out (by kernel_rfl)) ?_
      try go_wp2
      refine bodyPost_ret (results_ct rfl _ _ gb204 53 #[.slice none 0 0, .int .u32 ((t209) % 4294967296)] (0, 0) _ rfl bk_now Tryd.underlying53 rfl (by kernel_rfl)) rfl ?_
      exact ⟨_, ret_now, by first | exact Kd.R_nil _ _ _ _ _ | exact Kd.N_nil _ _ _ _ _ | exact Kd.V_nil _ _ _ _ _ | exact Kd.Q_nil _ _ _ _ _ | exact Kd.S_nil _ _ _ _ _, b_now⟩
     ·exact absurd (show ((([] : List (S50)).length : Int) ≤ 8) by decide) c15
    ·rw [if_neg c14] at H
     have c14b0 : (t206.toList == ([97, 110, 121] : List UInt8)) = false := beq_eq_false_iff_ne.mpr c14
     have c14b1 : (t206.toList != ([97, 110, 121] : List UInt8)) = true := bne_iff_ne.mpr c14
     replace H := Option.bind_eq_some_iff.mp H; obtain ⟨t212, A300, H⟩ := H; try dsimp only at H
     have A30 := Aside0.mk A300
     clear A300
     have H' := Aside0.mk H
     clear H
     have hnb31 := NB205_204.out
     have hnc31 := NB204_205.out
     have hcz32 := blk_all2 BK205.out
     go_wp2_with (first | ((with_reducible refine gate_callee (f := 56) rfl ?_); refine sh_call (some 38) Tryd.func56 #[.string t206, .string (⟨#[44, 32]⟩ : ByteArray)] ?_; (with_reducible refine (strings_Split.calls t206 (⟨#[44, 32]⟩ : ByteArray) t212 _ ?side1 A30.out).mono ?_); (case side1 => exact Kd.C_below HRG0.out b_now); rintro e w33 ⟨v213, rfl, ho0, hb⟩; refine ⟨_, rfl, ?_⟩; have HO214 := Aside0.mk (Kd.R_lower ho0 (below_size b_now)); replace BK204 := sh_kp (g := gb204) (t := 53) #[.slice none 0 0, .int .u32 0] hb; replace BK205 := sh_kp (g := gb205) (t := 53) #[.slice none 0 0, .int .u32 ((t209) % 4294967296)] hb; replace HB := sh_b (w := w) hb; (try clear hb); (try clear hb2); (try clear hk); (try clear hi); (try clear ho0); obtain ⟨Ao34, co34, eo34⟩ := Kd.R_slice HO214.out; subst eo34))
     go_loopg [40] kj4 (fun kq v40 w' => ∃ (x40_2 : Int) (x205001_2 : Int) (x206000_2 : List (S50)) (u206000 : Value), v40 = .int .i64 x40_2 ∧ Aside0 (rule_rule.l0 kq a0 t212 (t212.length : Int) x40_2 x206000_2 ((t209) % 4294967296) = some (r1, r2, r3)) ∧ Aside0 (kq ≤ kj4) ∧ Aside0 (Kd.R Kd.string 9 w' w.heap.size (fun _ => True) (.slice Ao34 t212.length co34) t212) ∧ Aside0 (Kd.R k50 50 w' w.heap.size (fun _ => True) u206000 x206000_2) ∧ Aside0 (w'.heap[gb204]? = some (.cells #[(.slice none 0 0), .int .u32 x205001_2] 53 (0, 0))) ∧ Aside0 (w'.heap[gb205]? = some (.cells #[u206000, .int .u32 ((t209) % 4294967296)] 53 (0, 0))) ∧ Aside0 (Below w.heap.size w w'))
     case atStart => exact ⟨(0), (0), (([] : List (S50))), (.slice none 0 0), eq_now, H', ⟨Nat.le_refl _⟩, ⟨by (with_reducible repeat (first | apply Kd.R_alloc | apply Kd.R_drewN | apply Kd.R_drew)); exact HO214.out⟩, ⟨by first | exact Kd.R_nil _ _ _ _ _ | exact Kd.N_nil _ _ _ _ _ | exact Kd.V_nil _ _ _ _ _ | exact Kd.Q_nil _ _ _ _ _ | exact Kd.S_nil _ _ _ _ _⟩, ⟨bk_now⟩, ⟨bk_now⟩, ⟨b_now⟩⟩
     case round =>
      clear H'
      clear c14 c14b0 c14b1 hcz32
      obtain ⟨x40_2, x205001_2, x206000_2, u206000, rfl, HA, HK2, HO_38, HO_206000, BK204, BK205, HB⟩ := hrel
      cases gk with
      | zero => exact absurd HA.out (by simp [rule_rule.l0])
      | succ k2 =>
       have H := HA.out
       clear HA
       simp only [rule_rule.l0] at H
       by_cases c35 : x40_2 < (t212.length : Int)
       ·rw [if_pos c35] at H
        have c35b0 : decide (x40_2 < (t212.length : Int)) = true := decide_eq_true c35
        clear c35
        by_cases c36 : 0 ≤ x40_2
        ·rw [if_pos c36] at H
         have c36b0 : decide (0 ≤ x40_2) = true := decide_eq_true c36
         clear c36
         by_cases c37 : x40_2 < (t212.length : Int)
         ·rw [if_pos c37] at H
          have c37b0 : decide (x40_2 < (t212.length : Int)) = true := decide_eq_true c37
          clear c37
          replace H := Option.bind_eq_some_iff.mp H; obtain ⟨⟨t216, t217, t218, t219, t220, t221, t222, t223⟩, A380, H⟩ := H; try dsimp only at H
          have A38 := Aside0.mk A380
          clear A380
          by_cases c39 : t223 = true
          ·subst c39
           replace H := sh_t H
           by_cases c40 : x206000_2.length < 2513169434916
           ·rw [if_pos c40] at H
            have LMc40 := Aside0.mk c40
            clear c40
            obtain ⟨y225, hy225⟩ : ∃ y_ : List (S50), y_ = (x206000_2 ++ [(⟨t216, t217, t218, t219, t220, t221, t222⟩ : S50)]) := ⟨_, rfl⟩
            replace H : (rule_rule.l0 k2 a0 t212 (t212.length : Int) (wrap64 (x40_2 + 1)) y225 ((t209) % 4294967296)) = some (r1, r2, r3) := by first | (rw [hy225]; with_reducible exact H) | (have H2_ := (Option.bind_some _ _).symm.trans H; rw [hy225]; with_reducible exact H2_) | (have H2_ := (Option.bind_some _ _).symm.trans H; with_reducible exact H2_) | with_reducible exact H | (rw [hy225]; exact H) | exact H
            have Ny225 := Aside0.mk hy225
            clear hy225
            have H' := Aside0.mk H
            clear H
            have p215 : 0 ≤ (x40_2 : Int) := of_decide_eq_true (by first | (with_reducible assumption) | assumption)
            have q215 : x40_2 < (t212.length : Int) := of_decide_eq_true (by first | (with_reducible assumption) | assumption)
            obtain ⟨ad215, e215, hx215_0⟩ := Kd.at_string (Kd.R_reads' HO_38.out).2.2 x40_2 p215 q215
            cases e215
            replace p215 := eq_true p215
            replace q215 := eq_true q215
            go_wp2_with (first | ((with_reducible refine gate_callee (f := 57) rfl ?_); refine sh_call (some 46) Tryd.func57 #[.string (rdOf ByteArray.empty t212 x40_2)] ?_; (with_reducible refine (rule_test.calls k2 (rdOf ByteArray.empty t212 x40_2) t216 t217 t218 t219 t220 t221 t222 true _ ?side1 A38.out).mono ?_); (case side1 => repeat (first | exact (Kd.C_below HRG0.out HB.out) | (with_reducible refine Kd.C_alloc ?_ _) | (with_reducible refine Kd.C_drewN ?_ _) | (with_reducible refine Kd.C_drew ?_))); rintro e w41 ⟨rfl, hb⟩; refine ⟨_, rfl, ?_⟩; replace HO_38 := Aside0.mk (Kd.R_below (by (with_reducible repeat (first | apply Kd.R_alloc | apply Kd.R_drewN | apply Kd.R_drew)); exact HO_38.out) hb); replace HO_206000 := Aside0.mk (Kd.R_below (by (with_reducible repeat (first | apply Kd.R_alloc | apply Kd.R_drewN | apply Kd.R_drew)); exact HO_206000.out) hb); replace BK204 := sh_k BK204 hb; replace BK205 := sh_k BK205 hb; replace HB := sh_b (w := w) hb; (try clear hb); (try clear hb2); (try clear hk); (try clear hi)) | ((with_reducible refine gate_dst (N := 12) rfl ?_); refine sh_box 12 #[.bool false, .int .i64 0, .int .i64 0, .int .i64 0, .int .u64 0, .int .u64 0, .int .u64 0] 50 ?_; intro gb224 hg w42 hbox hb; have GE224 := sh_z (w := w) hg; have NB204_224 := sh_n BK204 hg; have NB205_224 := sh_n BK205 hg; have NB224_204 := sh_s NB204_224; have NB224_205 := sh_s NB205_224; replace HO_38 := Aside0.mk (Kd.R_below (by (with_reducible repeat (first | apply Kd.R_alloc | apply Kd.R_drewN | apply Kd.R_drew)); exact HO_38.out) hb); replace HO_206000 := Aside0.mk (Kd.R_below (Kd.R_elderB (by (with_reducible repeat (first | apply Kd.R_alloc | apply Kd.R_drewN | apply Kd.R_drew)); exact HO_206000.out) gb224 (Nat.le_of_eq hg.symm)) hb); replace BK204 := sh_k BK204 hb; replace BK205 := sh_k BK205 hb; replace HB := sh_b (w := w) hb; have BK224 := Aside0.mk (hbox); clear hb hbox hg; have hnb43 := NB224_204.out; have hnc43 := NB204_224.out; have hnb44 := NB224_205.out; have hnc44 := NB205_224.out; have hcz45 := blk_all7 BK224.out; have hnb46 := NB205_204.out; have hnc46 := NB204_205.out; have hcz47 := blk_all2 BK205.out) | ((with_reducible refine gate_builtin (b := .append) (xs := #[.tmp 53, .tmp 55]) rfl ?_); at_builtin; refine Kd.R_append k50 (w0 := w) w.heap.size rfl (.tmp 53) (.tmp 55) 51 50 (.agg #[(.bool false), (.int .i64 0), (.int .i64 0), (.int .i64 0), (.int .u64 0), (.int .u64 0), (.int .u64 0)]) 56 rfl Tryd.underlying51 info50 rfl (by decide) (by omega) u206000 x206000_2 (⟨t216, t217, t218, t219, t220, t221, t222⟩ : S50) [.bool t216, .int .i64 t217, .int .i64 t218, .int .i64 t219, .int .u64 t220, .int .u64 t221, .int .u64 t222] (fun k_ => k_ ≠ gb224) (fun _ => False) rfl (by first | (go_simp; done) | (go_simp; rfl)) ?aP (fun _ hk => hk.elim) ?aF ?aO ?aB ?aS ?aL ?_; (case aP => exact k50_mkM _ _ _ (⟨t216, t217, t218, t219, t220, t221, t222⟩ : S50)); (case aB => exact b_now); (case aF => exact (fun k_ hk => Kd.freshB (g := gb224) (o := .cells #[.bool t216, .int .i64 t217, .int .i64 t218, .int .i64 t219, .int .u64 t220, .int .u64 t221, .int .u64 t222] 50 (0, 0)) bk_now k_ hk)); (case aO => exact (by (with_reducible repeat (first | apply Kd.R_alloc | apply Kd.R_drewN | apply Kd.R_drew)); exact Kd.R_mono (Kd.R_far (p := ⟨gb224, 6, none⟩) (Kd.R_far (p := ⟨gb224, 5, none⟩) (Kd.R_far (p := ⟨gb224, 4, none⟩) (Kd.R_far (p := ⟨gb224, 3, none⟩) (Kd.R_far (p := ⟨gb224, 2, none⟩) (Kd.R_far (p := ⟨gb224, 1, none⟩) (Kd.R_far (p := ⟨gb224, 0, none⟩) (Kd.R_mono HO_206000.out (fun k_ hk => (⟨hk, hk.2⟩ : _ ∧ k_ ≠ gb224))) (fun _ hk => hk.2) (.bool t216)) (fun _ hk => hk.2) (.int .i64 t217)) (fun _ hk => hk.2) (.int .i64 t218)) (fun _ hk => hk.2) (.int .i64 t219)) (fun _ hk => hk.2) (.int .u64 t220)) (fun _ hk => hk.2) (.int .u64 t221)) (fun _ hk => hk.2) (.int .u64 t222)) (fun _ hk => hk.1.2))); (case aS => exact (below_size b_now)); (case aL => have := LMc40.out; omega); intro v226 w48 ho hb hg hat; rw [← Ny225.out] at ho; have n0_ := Aside0.mk (Kd.R_over' (by (with_reducible repeat (first | apply Kd.R_alloc | apply Kd.R_drewN | apply Kd.R_drew)); exact (Kd.R_mono (Kd.R_far (p := ⟨gb224, 6, none⟩) (Kd.R_far (p := ⟨gb224, 5, none⟩) (Kd.R_far (p := ⟨gb224, 4, none⟩) (Kd.R_far (p := ⟨gb224, 3, none⟩) (Kd.R_far (p := ⟨gb224, 2, none⟩) (Kd.R_far (p := ⟨gb224, 1, none⟩) (Kd.R_far (p := ⟨gb224, 0, none⟩) (Kd.R_types HO_38.out BK224.out (by decide)) (fun _ hk => hk.2) (.bool t216)) (fun _ hk => hk.2) (.int .i64 t217)) (fun _ hk => hk.2) (.int .i64 t218)) (fun _ hk => hk.2) (.int .i64 t219)) (fun _ hk => hk.2) (.int .u64 t220)) (fun _ hk => hk.2) (.int .u64 t221)) (fun _ hk => hk.2) (.int .u64 t222)) (fun _ h_ => h_.1))) (Kd.R_typed (by (with_reducible repeat (first | apply Kd.R_alloc | apply Kd.R_drewN | apply Kd.R_drew)); exact (Kd.R_mono (Kd.R_far (p := ⟨gb224, 6, none⟩) (Kd.R_far (p := ⟨gb224, 5, none⟩) (Kd.R_far (p := ⟨gb224, 4, none⟩) (Kd.R_far (p := ⟨gb224, 3, none⟩) (Kd.R_far (p := ⟨gb224, 2, none⟩) (Kd.R_far (p := ⟨gb224, 1, none⟩) (Kd.R_far (p := ⟨gb224, 0, none⟩) (Kd.R_mono HO_206000.out (fun k_ hk => (⟨hk, hk.2⟩ : _ ∧ k_ ≠ gb224))) (fun _ hk => hk.2) (.bool t216)) (fun _ hk => hk.2) (.int .i64 t217)) (fun _ hk => hk.2) (.int .i64 t218)) (fun _ hk => hk.2) (.int .i64 t219)) (fun _ hk => hk.2) (.int .u64 t220)) (fun _ hk => hk.2) (.int .u64 t221)) (fun _ hk => hk.2) (.int .u64 t222)) (fun _ h_ => h_.1)))) (by decide) hg); have n1_ := Aside0.mk (blk_grown (g := gb204) (o := .cells #[.slice none 0 0, .int .u32 x205001_2] 53 (0, 0)) bk_now hg (Kd.R_ne HO_206000.out BK204.out (by decide))); have n2_ := Aside0.mk (blk_grown (g := gb205) (o := .cells #[u206000, .int .u32 ((t209) % 4294967296)] 53 (0, 0)) bk_now hg (Kd.R_ne HO_206000.out BK205.out (by decide))); have n3_ := Aside0.mk (blk_grown (g := gb224) (o := .cells #[.bool t216, .int .i64 t217, .int .i64 t218, .int .i64 t219, .int .u64 t220, .int .u64 t221, .int .u64 t222] 50 (0, 0)) bk_now hg (Kd.R_away HO_206000.out (fun _ hk => hk.2))); have n4_ := Aside0.mk (hb); have n5_ := Aside0.mk (ho); clear HO_38; clear BK204; clear BK205; clear BK224; clear HB; clear HO_206000; have HO_38 := n0_; have BK204 := n1_; have BK205 := n2_; have BK224 := n3_; have HB := n4_; have HO227 := n5_; clear n0_ n1_ n2_ n3_ n4_ n5_; clear ho hb hg hat; obtain ⟨Ao49, co49, eo49⟩ := Kd.R_slice HO227.out; subst eo49; have hcz50 := blk_all2 BK205.out))
            go_roundg k2
            case measure => have := HJ4.out; have := HK2.out; omega
            case rel => exact ⟨(wrap64 (x40_2 + 1)), (x205001_2), (y225), (.slice Ao49 y225.length co49), eq_now, H', ⟨by have := HJ4.out; have := HK2.out; omega⟩, ⟨by (with_reducible repeat (first | apply Kd.R_alloc | apply Kd.R_drewN | apply Kd.R_drew)); exact Kd.R_mono (Kd.R_far (p := ⟨gb205, 0, none⟩) (Kd.R_types HO_38.out BK205.out (by decide)) (fun _ hk => hk.2) (.slice Ao49 y225.length co49)) (fun _ hk => trivial)⟩, ⟨by (with_reducible repeat (first | apply Kd.R_alloc | apply Kd.R_drewN | apply Kd.R_drew)); exact Kd.R_mono (Kd.R_far (p := ⟨gb205, 0, none⟩) (Kd.R_types HO227.out BK205.out (by decide)) (fun _ hk => hk.2) (.slice Ao49 y225.length co49)) (fun _ hk => trivial)⟩, ⟨bk_now⟩, ⟨bk_now⟩, ⟨b_now⟩⟩
           ·rw [if_neg c40] at H
            exact absurd H (by simp)
          ·replace c39 := Bool.eq_false_iff.mpr c39
           subst c39
           replace H := sh_f H
           simp only [Option.some.injEq, Prod.mk.injEq] at H
           obtain ⟨rfl, rfl, rfl⟩ := H
           have p215 : 0 ≤ (x40_2 : Int) := of_decide_eq_true (by first | (with_reducible assumption) | assumption)
           have q215 : x40_2 < (t212.length : Int) := of_decide_eq_true (by first | (with_reducible assumption) | assumption)
           obtain ⟨ad215, e215, hx215_0⟩ := Kd.at_string (Kd.R_reads' HO_38.out).2.2 x40_2 p215 q215
           cases e215
           replace p215 := eq_true p215
           replace q215 := eq_true q215
           go_wp2_with (first | ((with_reducible refine gate_callee (f := 57) rfl ?_); refine sh_call (some 46) Tryd.func57 #[.string (rdOf ByteArray.empty t212 x40_2)] ?_; (with_reducible refine (rule_test.calls k2 (rdOf ByteArray.empty t212 x40_2) t216 t217 t218 t219 t220 t221 t222 false _ ?side1 A38.out).mono ?_); (case side1 => repeat (first | exact (Kd.C_below HRG0.out HB.out) | (with_reducible refine Kd.C_alloc ?_ _) | (with_reducible refine Kd.C_drewN ?_ _) | (with_reducible refine Kd.C_drew ?_))); rintro e w51 ⟨rfl, hb⟩; refine ⟨_, rfl, ?_⟩; replace HO_38 := Aside0.mk (Kd.R_below (by (with_reducible repeat (first | apply Kd.R_alloc | apply Kd.R_drewN | apply Kd.R_drew)); exact HO_38.out) hb); replace HO_206000 := Aside0.mk (Kd.R_below (by (with_reducible repeat (first | apply Kd.R_alloc | apply Kd.R_drewN | apply Kd.R_drew)); exact HO_206000.out) hb); replace BK204 := sh_k BK204 hb; replace BK205 := sh_k BK205 hb; replace HB := sh_b (w := w) hb; (try clear hb); (try clear hb2); (try clear hk); (try clear hi)) | ((with_reducible refine gate_dst (N := 12) rfl ?_); refine sh_box 12 #[.bool false, .int .i64 0, .int .i64 0, .int .i64 0, .int .u64 0, .int .u64 0, .int .u64 0] 50 ?_; intro gb224 hg w52 hbox hb; have GE224 := sh_z (w := w) hg; have NB204_224 := sh_n BK204 hg; have NB205_224 := sh_n BK205 hg; have NB224_204 := sh_s NB204_224; have NB224_205 := sh_s NB205_224; replace HO_38 := Aside0.mk (Kd.R_below (by (with_reducible repeat (first | apply Kd.R_alloc | apply Kd.R_drewN | apply Kd.R_drew)); exact HO_38.out) hb); replace HO_206000 := Aside0.mk (Kd.R_below (Kd.R_elderB (by (with_reducible repeat (first | apply Kd.R_alloc | apply Kd.R_drewN | apply Kd.R_drew)); exact HO_206000.out) gb224 (Nat.le_of_eq hg.symm)) hb); replace BK204 := sh_k BK204 hb; replace BK205 := sh_k BK205 hb; replace HB := sh_b (w := w) hb; have BK224 := Aside0.mk (hbox); clear hb hbox hg; have hnb53 := NB224_204.out; have hnc53 := NB204_224.out; have hnb54 := NB224_205.out; have hnc54 := NB205_224.out; have hcz55 := blk_all7 BK224.out; have hnb56 := NB204_205.out; have hnc56 := NB205_204.out; have hcz57 := blk_all2 BK204.out))
           refine bodyPost_ret (results_ct rfl _ _ gb204 53 #[.slice none 0 0, .int .u32 0] (0, 0) _ rfl bk_now Tryd.underlying53 rfl (by kernel_rfl)) rfl ?_
           exact ⟨_, ret_now, by first | exact Kd.R_nil _ _ _ _ _ | exact Kd.N_nil _ _ _ _ _ | exact Kd.V_nil _ _ _ _ _ | exact Kd.Q_nil _ _ _ _ _ | exact Kd.S_nil _ _ _ _ _, b_now⟩
         ·rw [if_neg c37] at H
          exact absurd H (by simp)
        ·rw [if_neg c36] at H
         exact absurd H (by simp)
       ·rw [if_neg c35] at H
        have c35b0 : decide (x40_2 < (t212.length : Int)) = false := decide_eq_false c35
        clear c35
        by_cases c58 : (x206000_2.length : Int) ≤ 8
        ·rw [if_pos c58] at H
         have c58b0 : decide ((x206000_2.length : Int) ≤ 8) = true := decide_eq_true c58
         have c58b1 : decide (x206000_2.length ≤ 8) = true := decide_eq_true (by omega)
         clear c58
         replace H := Option.bind_eq_some_iff.mp H; obtain ⟨t228, A590, H⟩ := H; try dsimp only at H
         have A59 := Aside0.mk A590
         clear A590
         simp only [Option.some.injEq, Prod.mk.injEq] at H
         obtain ⟨rfl, rfl, rfl⟩ := H
         try go_wp2
         have n0_ := Aside0.mk (Kd.R_drew HO_38.out)
         have n1_ := Aside0.mk (Kd.R_drew HO_206000.out)
         have n2_ := Aside0.mk (blk_drew BK204.out)
         have n3_ := Aside0.mk (blk_drew BK205.out)
         have n4_ := Aside0.mk (below_drew1 HB.out)
         clear HO_38
         clear HO_206000
         clear BK204
         clear BK205
         clear HB
         have HO_38 := n0_
         have HO_206000 := n1_
         have BK204 := n2_
         have BK205 := n3_
         have HB := n4_
         clear n0_ n1_ n2_ n3_ n4_
         obtain ⟨Ao61, co61, eo61⟩ := Kd.R_slice HO_206000.out
         (first | subst eo61 | (injection eo61 with f1_ f2_ f3_; have f4_ := f1_.symm; have f5_ := f3_.symm; clear f1_ f2_ f3_; subst f4_; subst f5_))
         refine start_ (n := 13) (S := fun w' => w'.cell? ⟨gb205, 0, none⟩ = some (.slice Ao61 x206000_2.length co61) ∧ w'.cell? ⟨gb205, 1, none⟩ = some (.int .u32 ((t209) % 4294967296))) (ds := []) (fl 0 13) (by kernel_rfl) rfl rfl ⟨(blk_cell BK205.out 0).trans rfl, (blk_cell BK205.out 1).trans rfl⟩ (fun hHeld => ?_); refine with_tabW rule_rule.tab17 rule_rule.bits17 (fun HT_ HW_ => ?_)
         generalize wr.drew = w60 at HO_38 HO_206000 BK204 BK205 HB hHeld ⊢
         refine pure_ (i := 1) (N := some 60) (v := ?_) (a' := ?_) (fm 13 2) rfl rfl (any_of HT_.out (by kernel_rfl)) (fun _ _ _ h => h) (Or.inl ⟨by rfl, ?_⟩) ?_ ?_
         rotate_left; exact ga_; rotate_left; exact gb_
         refine take_ (i := 0) (N := some 59) (v := ?_) (a' := ?_) (fl 2 11) rfl rfl (take_ofW HT_.out HW_.out (by kernel_rfl)) (fun _ _ _ h => h) (Or.inl ⟨by rfl, ?_⟩) hHeld ?_ ?_
         rotate_left; exact ga2_; rotate_left; exact gb_
         refine take_ (i := 2) (N := some 61) (v := ?_) (a' := ?_) (fl 3 10) rfl rfl (take_ofW HT_.out HW_.out (by kernel_rfl)) (fun _ _ _ h => h) (Or.inl ⟨by rfl, ?_⟩) hHeld ?_ ?_
         rotate_left; exact ga2_; rotate_left; exact gb_
         refine pure_ (i := 3) (N := some 62) (v := ?_) (a' := ?_) (fl 4 9) rfl rfl (any_of HT_.out (by kernel_rfl)) (fun _ _ _ h => h) (Or.inl ⟨by rfl, ?_⟩) ?_ ?_
         rotate_left; exact ga_; rotate_left; exact gb_
         refine pure_ (i := 4) (N := some 63) (v := ?_) (a' := ?_) (fl 5 8) rfl rfl (any_of HT_.out (by kernel_rfl)) (fun _ _ _ h => h) (Or.inl ⟨by rfl, ?_⟩) ?_ ?_
         rotate_left; exact ga_; rotate_left; exact gb_
         refine pure_ (i := 5) (N := some 64) (v := ?_) (a' := ?_) (fl 6 7) rfl rfl (any_of HT_.out (by kernel_rfl)) (fun _ _ _ h => h) (Or.inl ⟨by rfl, ?_⟩) ?_ ?_
         rotate_left; exact ga_; rotate_left; exact gb_
         refine pure_ (i := 8) (N := some 67) (v := ?_) (a' := ?_) (fm 13 319) rfl rfl (any_of HT_.out (by kernel_rfl)) (fun _ _ _ h => h) (Or.inl ⟨by rfl, ?_⟩) ?_ ?_
         rotate_left; exact ga_; rotate_left; exact gb_
         refine take_ (i := 6) (N := some 65) (v := ?_) (a' := ?_) (fm 13 383) rfl rfl (take_ofW HT_.out HW_.out (by kernel_rfl)) (fun _ _ _ h => h) (Or.inl ⟨by rfl, ?_⟩) hHeld ?_ ?_
         rotate_left; exact ga2_; rotate_left; exact gb_
         refine one_ (i := 7) (N := some 66) (fl 9 4) rfl rfl (one_of HT_.out (by kernel_rfl)) (by decide) (fun K hK => ?_)
         refine goes_ Tryd.func31 (by kernel_rfl) rfl #[.agg #[.slice Ao61 x206000_2.length co61, .int .u32 ((t209) % 4294967296)]] (by rfl) rfl rfl (by (try simp only [List.map_toArray, List.map_cons, List.map_nil]); first | done | rfl | (simp only [List.length_drop, List.length_take]; rfl)) ?_
         with_reducible refine (rule_line.calls k2 _ _ x206000_2 ((t209) % 4294967296) t228 _ ?side1 ?side2 ?side3 A59.out).mono ?_
         (case side1 => repeat (first | exact (Kd.R_reads' HO_206000.out).2.2 | (with_reducible refine Kd.C_alloc ?_ _) | (with_reducible refine Kd.C_drewN ?_ _) | (with_reducible refine Kd.C_drew ?_)))
         (case side2 => exact (Kd.R_reads' HO_206000.out).2.1)
         (case side3 => repeat (first | exact (Kd.C_below HRG0.out HB.out) | (with_reducible refine Kd.C_alloc ?_ _) | (with_reducible refine Kd.C_drewN ?_ _) | (with_reducible refine Kd.C_drew ?_)))
         rintro e w62 ⟨rfl, hb⟩
         refine ⟨_, rfl, ?_⟩
         have n0_ := Aside0.mk (Kd.R_below (by (with_reducible repeat (first | apply Kd.R_alloc | apply Kd.R_drewN | apply Kd.R_drew)); exact HO_38.out) hb)
         have n1_ := Aside0.mk (Kd.R_below (by (with_reducible repeat (first | apply Kd.R_alloc | apply Kd.R_drewN | apply Kd.R_drew)); exact HO_206000.out) hb)
         have n2_ := Aside0.mk (blk_below (g := gb204) (o := .cells #[.slice none 0 0, .int .u32 x205001_2] 53 (0, 0)) bk_now hb)
         have n3_ := Aside0.mk (blk_below (g := gb205) (o := .cells #[.slice Ao61 x206000_2.length co61, .int .u32 ((t209) % 4294967296)] 53 (0, 0)) bk_now hb)
         have n4_ := Aside0.mk (below_step b_now hb)
         clear HO_38
         clear HO_206000
         clear BK204
         clear BK205
         clear HB
         have HO_38 := n0_
         have HO_206000 := n1_
         have BK204 := n2_
         have BK205 := n3_
         have HB := n4_
         clear n0_ n1_ n2_ n3_ n4_
         (try clear hb)
         (try clear hb2)
         (try clear hk)
         (try clear hi)
         refine hK.out _ _ ⟨(blk_cell BK205.out 0).trans rfl, (blk_cell BK205.out 1).trans rfl⟩ (fun hHeld => ?_)
         clear hK K
         refine norm_ (a' := ?_) ?_ ?_
         rotate_left
         ·show Act.put _ (some 66) _ = _
          simp only [Act.put, List.setIfInBounds_toArray, List.set_cons_zero, List.set_cons_succ, i64_w, i32_w]
          rfl
         refine pure_ (i := 9) (N := some 68) (v := ?_) (a' := ?_) (fl 10 3) rfl rfl (any_of HT_.out (by kernel_rfl)) (fun _ _ _ h => h) (Or.inl ⟨by rfl, ?_⟩) ?_ ?_
         rotate_left; exact ga_; rotate_left; exact gb_
         refine pure_ (i := 10) (N := some 69) (v := ?_) (a' := ?_) (fl 11 2) rfl rfl (any_of HT_.out (by kernel_rfl)) (fun _ _ _ h => h) (Or.inl ⟨by rfl, ?_⟩) ?_ ?_
         rotate_left; exact ga_; rotate_left; exact gb_
         refine one_ (i := 11) (N := none) (fl 12 1) rfl rfl (one_of HT_.out (by kernel_rfl)) (by decide) (fun K hK => ?_)
         have hs63 : w62.cell? ⟨gb204, 0, none⟩ = some (.slice none 0 0) := (blk_cell BK204.out 0).trans rfl
         have hfs63 := blk_frozen BK204.out 0
         have hns63_1 := NB205_204.out
         have hms63_1 := NB204_205.out
         have hs64 : w62.cell? ⟨gb204, 1, none⟩ = some (.int .u32 x205001_2) := (blk_cell BK204.out 1).trans rfl
         have hfs64 := blk_frozen BK204.out 1
         have hns64_1 := NB205_204.out
         have hms64_1 := NB204_205.out
         refine skip_ (w1 := ?_) (by rfl) rfl ?_ ?_
         rotate_left
         ·go_simp
          rfl
         refine hK.out _ _ ⟨((cell_far (p := ⟨gb204, _, none⟩) NB205_204.out _).trans (((cell_far (p := ⟨gb204, _, none⟩) NB205_204.out _).trans (hHeld.1)))), ((cell_far (p := ⟨gb204, _, none⟩) NB205_204.out _).trans (((cell_far (p := ⟨gb204, _, none⟩) NB205_204.out _).trans (hHeld.2))))⟩ (fun hHeld => ?_)
         clear hK K
         refine pure_ (i := 12) (N := some 3) (v := ?_) (a' := ?_) (fl 13 0) rfl rfl (any_of HT_.out (by kernel_rfl)) (fun _ _ _ h => h) (Or.inl ⟨by rfl, ?_⟩) ?_ ?_
         rotate_left; exact ga_; rotate_left; exact gb_
         refine done_ (done_of HT_.out (by kernel_rfl)) ?_
         try go_wp2
         refine bodyPost_ret (results_ct rfl _ _ gb204 53 #[.slice Ao61 x206000_2.length co61, .int .u32 ((t209) % 4294967296)] (0, 0) _ rfl bk_now Tryd.underlying53 rfl (by kernel_rfl)) rfl ?_
         exact ⟨_, ret_now, by (with_reducible repeat (first | apply Kd.R_alloc | apply Kd.R_drewN | apply Kd.R_drew)); exact Kd.R_mono (Kd.R_far (p := ⟨gb204, 1, none⟩) (Kd.R_far (p := ⟨gb204, 0, none⟩) (Kd.R_types HO_206000.out BK204.out (by decide)) (fun _ hk => hk.2) (.slice Ao61 x206000_2.length co61)) (fun _ hk => hk.2) (.int .u32 ((t209) % 4294967296))) (fun _ hk => trivial), b_now⟩
        ·rw [if_neg c58] at H
         have c58b0 : decide ((x206000_2.length : Int) ≤ 8) = false := decide_eq_false c58
         have c58b1 : decide (x206000_2.length ≤ 8) = false := decide_eq_false (by omega)
         clear c58
         simp only [Option.some.injEq, Prod.mk.injEq] at H
         obtain ⟨rfl, rfl, rfl⟩ := H
         try go_wp2
         have n0_ := Aside0.mk (Kd.R_drew HO_38.out)
         have n1_ := Aside0.mk (Kd.R_drew HO_206000.out)
         have n2_ := Aside0.mk (blk_drew BK204.out)
         have n3_ := Aside0.mk (blk_drew BK205.out)
         have n4_ := Aside0.mk (below_drew1 HB.out)
         clear HO_38
         clear HO_206000
         clear BK204
         clear BK205
         clear HB
         have HO_38 := n0_
         have HO_206000 := n1_
         have BK204 := n2_
         have BK205 := n3_
         have HB := n4_
         clear n0_ n1_ n2_ n3_ n4_
         obtain ⟨Ao66, co66, eo66⟩ := Kd.R_slice HO_206000.out
         (first | subst eo66 | (injection eo66 with f1_ f2_ f3_; have f4_ := f1_.symm; have f5_ := f3_.symm; clear f1_ f2_ f3_; subst f4_; subst f5_))
         refine start_ (n := 13) (S := fun w' => w'.cell? ⟨gb205, 0, none⟩ = some (.slice Ao66 x206000_2.length co66) ∧ w'.cell? ⟨gb205, 1, none⟩ = some (.int .u32 ((t209) % 4294967296))) (ds := []) (fl 0 13) (by kernel_rfl) rfl rfl ⟨(blk_cell BK205.out 0).trans rfl, (blk_cell BK205.out 1).trans rfl⟩ (fun hHeld => ?_); refine with_tabW rule_rule.tab17 rule_rule.bits17 (fun HT_ HW_ => ?_)
         generalize wr.drew = w65 at HO_38 HO_206000 BK204 BK205 HB hHeld ⊢
         refine pure_ (i := 1) (N := some 60) (v := ?_) (a' := ?_) (fm 13 2) rfl rfl (any_of HT_.out (by kernel_rfl)) (fun _ _ _ h => h) (Or.inl ⟨by rfl, ?_⟩) ?_ ?_
         rotate_left; exact ga_; rotate_left; exact gb_
         refine take_ (i := 0) (N := some 59) (v := ?_) (a' := ?_) (fl 2 11) rfl rfl (take_ofW HT_.out HW_.out (by kernel_rfl)) (fun _ _ _ h => h) (Or.inl ⟨by rfl, ?_⟩) hHeld ?_ ?_
         rotate_left; exact ga2_; rotate_left; exact gb_
         refine take_ (i := 2) (N := some 61) (v := ?_) (a' := ?_) (fl 3 10) rfl rfl (take_ofW HT_.out HW_.out (by kernel_rfl)) (fun _ _ _ h => h) (Or.inl ⟨by rfl, ?_⟩) hHeld ?_ ?_
         rotate_left; exact ga2_; rotate_left; exact gb_
         refine pure_ (i := 3) (N := some 62) (v := ?_) (a' := ?_) (fl 4 9) rfl rfl (any_of HT_.out (by kernel_rfl)) (fun _ _ _ h => h) (Or.inl ⟨by rfl, ?_⟩) ?_ ?_
         rotate_left; exact ga_; rotate_left; exact gb_
         refine pure_ (i := 4) (N := some 63) (v := ?_) (a' := ?_) (fl 5 8) rfl rfl (any_of HT_.out (by kernel_rfl)) (fun _ _ _ h => h) (Or.inl ⟨by rfl, ?_⟩) ?_ ?_
         rotate_left; exact ga_; rotate_left; exact gb_
         refine pure_ (i := 5) (N := some 64) (v := ?_) (a' := ?_) (fl 6 7) rfl rfl (any_of HT_.out (by kernel_rfl)) (fun _ _ _ h => h) (Or.inl ⟨by rfl, ?_⟩) ?_ ?_
         rotate_left; exact ga_; rotate_left; exact gb_
         refine pure_ (i := 6) (N := some 65) (v := undef) (a' := ?_) (fl 7 6) rfl rfl (any_of HT_.out (by kernel_rfl)) (fun _ _ _ h => h) (Or.inr ⟨by rfl, rfl⟩) ?_ ?_
         rotate_left
         ·simp only [Act.put, List.setIfInBounds_toArray, List.set_cons_zero, List.set_cons_succ, i64_w, i32_w]
          rfl
         refine pure_ (i := 7) (N := some 66) (v := undef) (a' := ?_) (fl 8 5) rfl rfl (any_of HT_.out (by kernel_rfl)) (fun _ _ _ h => h) (Or.inr ⟨by rfl, rfl⟩) ?_ ?_
         rotate_left
         ·simp only [Act.put, List.setIfInBounds_toArray, List.set_cons_zero, List.set_cons_succ, i64_w, i32_w]
          rfl
         refine pure_ (i := 8) (N := some 67) (v := undef) (a' := ?_) (fl 9 4) rfl rfl (any_of HT_.out (by kernel_rfl)) (fun _ _ _ h => h) (Or.inr ⟨by rfl, rfl⟩) ?_ ?_
         rotate_left
         ·simp only [Act.put, List.setIfInBounds_toArray, List.set_cons_zero, List.set_cons_succ, i64_w, i32_w]
          rfl
         refine pure_ (i := 9) (N := some 68) (v := undef) (a' := ?_) (fl 10 3) rfl rfl (any_of HT_.out (by kernel_rfl)) (fun _ _ _ h => h) (Or.inr ⟨by rfl, rfl⟩) ?_ ?_
         rotate_left
         ·simp only [Act.put, List.setIfInBounds_toArray, List.set_cons_zero, List.set_cons_succ, i64_w, i32_w]
          rfl
         refine pure_ (i := 10) (N := some 69) (v := ?_) (a' := ?_) (fl 11 2) rfl rfl (any_of HT_.out (by kernel_rfl)) (fun _ _ _ h => h) (Or.inl ⟨by rfl, ?_⟩) ?_ ?_
         rotate_left; exact ga_; rotate_left; exact gb_
         refine one_ (i := 11) (N := none) (fl 12 1) rfl rfl (one_of HT_.out (by kernel_rfl)) (by decide) (fun K hK => ?_)
         have hs67 : w65.cell? ⟨gb204, 0, none⟩ = some (.slice none 0 0) := (blk_cell BK204.out 0).trans rfl
         have hfs67 := blk_frozen BK204.out 0
         have hns67_1 := NB205_204.out
         have hms67_1 := NB204_205.out
         have hs68 : w65.cell? ⟨gb204, 1, none⟩ = some (.int .u32 x205001_2) := (blk_cell BK204.out 1).trans rfl
         have hfs68 := blk_frozen BK204.out 1
         have hns68_1 := NB205_204.out
         have hms68_1 := NB204_205.out
         refine skip_ (w1 := ?_) (by rfl) rfl ?_ ?_
         rotate_left
         ·go_simp
          rfl
         refine hK.out _ _ ⟨((cell_far (p := ⟨gb204, _, none⟩) NB205_204.out _).trans (((cell_far (p := ⟨gb204, _, none⟩) NB205_204.out _).trans (hHeld.1)))), ((cell_far (p := ⟨gb204, _, none⟩) NB205_204.out _).trans (((cell_far (p := ⟨gb204, _, none⟩) NB205_204.out _).trans (hHeld.2))))⟩ (fun hHeld => ?_)
         clear hK K
         refine pure_ (i := 12) (N := some 3) (v := ?_) (a' := ?_) (fl 13 0) rfl rfl (any_of HT_.out (by kernel_rfl)) (fun _ _ _ h => h) (Or.inl ⟨by rfl, ?_⟩) ?_ ?_
         rotate_left; exact ga_; rotate_left; exact gb_
         refine done_ (done_of HT_.out (by kernel_rfl)) ?_
         try go_wp2
         refine bodyPost_ret (results_ct rfl _ _ gb204 53 #[.slice Ao66 x206000_2.length co66, .int .u32 ((t209) % 4294967296)] (0, 0) _ rfl bk_now Tryd.underlying53 rfl (by kernel_rfl)) rfl ?_
         exact ⟨_, ret_now, by (with_reducible repeat (first | apply Kd.R_alloc | apply Kd.R_drewN | apply Kd.R_drew)); exact Kd.R_mono (Kd.R_far (p := ⟨gb204, 1, none⟩) (Kd.R_far (p := ⟨gb204, 0, none⟩) (Kd.R_types HO_206000.out BK204.out (by decide)) (fun _ hk => hk.2) (.slice Ao66 x206000_2.length co66)) (fun _ hk => hk.2) (.int .u32 ((t209) % 4294967296))) (fun _ hk => trivial), b_now⟩

end Go.Proofs.YtighficpbplkhaaDoor.P
