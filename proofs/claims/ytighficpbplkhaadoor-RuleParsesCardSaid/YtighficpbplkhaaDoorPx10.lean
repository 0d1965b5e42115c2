/- Made by this session's driver over the kit's printer: for each Go function a Lean function with the same answers, and a proof that the Go call comes to these answers; no conditions but the ones each theorem names. -/
import Derived.Test.YtighficpbplkhaaDoorPx0
import Derived.Test.YtighficpbplkhaaDoorBu
import Derived.Test.YtighficpbplkhaaDoorPx4
import Derived.Test.YtighficpbplkhaaDoorPx7
import Derived.Test.YtighficpbplkhaaDoorPx8
import Derived.Test.YtighficpbplkhaaDoorPxXXJo
namespace Go.Proofs.YtighficpbplkhaaDoor.P
open Go.RowKit Go.Proofs.YtighficpbplkhaaDoorW.PrintWords Go.Proofs.YtighficpbplkhaaDoorW.PrintLast Go.Proofs.YtighficpbplkhaaDoorW.PrintMore
attribute [local go_sem] max2_int min2_int max_two min_two max_three min_three max_four min_four   -- for this text's walks alone
set_option linter.unusedVariables false
set_option linter.unusedSimpArgs false

/-! ### rule_line: function 31 -/
def rule_line.l0 : Nat → List ByteArray → List (S50) → Int → Int → List (S50) → Int → Option (ByteArray)
 | 0, _, _, _, _, _, _ => none
 | k + 1, x3, x7, x8, x9, x154000, x154001 => if x9 < x8 then (if 0 ≤ x9 then (if x9 < (x7.length : Int) then ((rule_text.f k ((rd_T50 x7 x9).f0) ((rd_T50 x7 x9).f1) ((rd_T50 x7 x9).f2) ((rd_T50 x7 x9).f3) ((rd_T50 x7 x9).f4) ((rd_T50 x7 x9).f5) ((rd_T50 x7 x9).f6)).bind fun t156 => (if x3.length < 8796093022208 then (rule_line.l0 k (x3 ++ [t156]) x7 x8 (wrap64 (x9 + 1)) x154000 x154001) else (none))) else (none)) else (none)) else (if (x3.length : Int) = 0 then (if x3.length < 8796093022208 then ((strings_Join.f (x3 ++ [(⟨#[97, 110, 121]⟩ : ByteArray)]) (⟨#[44, 32]⟩ : ByteArray)).bind fun t163 => (if t163.size + 4 ≤ 9223372036854775807 then ((rule_digits.f (IntKind.u64.wrap (x154001))).bind fun t164 => (if (t163 ++ (⟨#[32, 45, 62, 32]⟩ : ByteArray)).size + t164.size ≤ 9223372036854775807 then (some ((t163 ++ (⟨#[32, 45, 62, 32]⟩ : ByteArray)) ++ t164)) else (none))) else (none))) else (none)) else ((strings_Join.f x3 (⟨#[44, 32]⟩ : ByteArray)).bind fun t165 => (if t165.size + 4 ≤ 9223372036854775807 then ((rule_digits.f (IntKind.u64.wrap (x154001))).bind fun t166 => (if (t165 ++ (⟨#[32, 45, 62, 32]⟩ : ByteArray)).size + t166.size ≤ 9223372036854775807 then (some ((t165 ++ (⟨#[32, 45, 62, 32]⟩ : ByteArray)) ++ t166)) else (none))) else (none))))
def rule_line.f (k : Nat) (l0_0 : List (S50)) (a0_1 : Int) : Option (ByteArray) := rule_line.l0 k ([] : List ByteArray) l0_0 (l0_0.length : Int) 0 l0_0 a0_1
theorem rule_line.mono_l : ∀ k, (∀ y0 y1 y2 y3 y4 y5, LeO (rule_line.l0 k y0 y1 y2 y3 y4 y5) (rule_line.l0 (k + 1) y0 y1 y2 y3 y4 y5))
 | 0 => fun _ _ _ _ _ _ r h => by simp [rule_line.l0] at h
 | k + 1 => by
  have ih0 := rule_line.mono_l k
  ·intro y0 y1 y2 y3 y4 y5
   unfold rule_line.l0
   repeat' first
   | (with_reducible exact ih0 _ _ _ _ _ _)
   | (with_reducible exact rule_text.mono _ _ _ _ _ _ _ _)
   | (with_reducible exact LeO.refl _)
   | (with_reducible exact LeO.none _)
   | (with_reducible refine LeO.ite ?_ ?_)
   | (with_reducible refine LeO.bind ?_ (fun _ => ?_))
   | exact ih0 _ _ _ _ _ _
   | exact rule_text.mono _ _ _ _ _ _ _ _
   | exact LeO.none _
   | refine LeO.ite ?_ ?_
   | refine LeO.bind ?_ (fun _ => ?_)
theorem rule_line.mono : ∀ a0 a1 k, LeO (rule_line.f k a0 a1) (rule_line.f (k + 1) a0 a1) := by
 intro a0 a1 k
 have ih0 := rule_line.mono_l k
 unfold rule_line.f
 repeat' first
   | (with_reducible exact ih0 _ _ _ _ _ _)
   | (with_reducible exact rule_text.mono _ _ _ _ _ _ _ _)
   | (with_reducible exact LeO.refl _)
   | (with_reducible exact LeO.none _)
   | (with_reducible refine LeO.ite ?_ ?_)
   | (with_reducible refine LeO.bind ?_ (fun _ => ?_))
   | exact ih0 _ _ _ _ _ _
   | exact rule_text.mono _ _ _ _ _ _ _ _
   | exact LeO.none _
   | refine LeO.ite ?_ ?_
   | refine LeO.bind ?_ (fun _ => ?_)
def rule_line.T9 : Bool × List (List Nat × List Nat) := (true, [([], []), ([0], [0]), ([1], [1]), ([], []), ([3], [3]), ([4], [4]), ([5, 1], [5]), ([2, 6], [2, 6]), ([7, 6, 0, 1, 2, 3, 4, 5, 6, 7], [7])])
def rule_line.B9 : List Nat := [0, 1, 3, 0, 8, 24, 59, 127, 255]
theorem rule_line.tab9 : rtab .any (opsOf Tryd.f31 9) = rule_line.T9 := by kernel_rfl
theorem rule_line.bits9 : waitsOk rule_line.T9.2 rule_line.B9 = true := by kernel_rfl
set_option maxHeartbeats 8000000 in
set_option maxRecDepth 100000 in
theorem rule_line.calls (k : Nat) (A0_0 : Option Addr) (c0_0 : Nat) (l0_0 : List (S50)) (a0_1 : Int) (r : ByteArray) (w : World) (hr0_0 : Kd.C k50 w A0_0 l0_0.length l0_0) (hc0_0 : l0_0.length ≤ c0_0) (hrG0 : Kd.C kGF w (some ⟨0, 0, none⟩) gl0.length gl0) (h : rule_line.f k l0_0 a0_1 = some r) :
  Calls Tryd.prog 31 #[.agg #[.slice A0_0 l0_0.length c0_0, .int .u32 a0_1]] w fun e w' => e = .returned (.string r) ∧ Below w.heap.size w w' := by
 have hu53 := Tryd.underlying53
 have hu50 := Tryd.underlying50
 have HR0_0 := Aside0.mk hr0_0
 have HC0_0 := Aside0.mk hc0_0
 clear hr0_0 hc0_0
 have HRG0 := Aside0.mk hrG0
 clear hrG0
 have HB := Aside0.mk (Below.refl w.heap.size w)
 have H : (rule_line.l0 k ([] : List ByteArray) l0_0 (l0_0.length : Int) 0 l0_0 a0_1) = some r := h
 clear h
 have H' := Aside0.mk H
 clear H
 go_enter Tryd.func31, Tryd.ntmps31
 go_wp2_with (first | ((with_reducible refine gate_dst (N := 1) rfl ?_); refine sh_box 1 #[.slice A0_0 l0_0.length c0_0, .int .u32 a0_1] 53 ?_; intro gb153 hg w2 hbox hb; have GE153 := sh_z (w := w) hg; replace HB := sh_b (w := w) hb; have BK153 := Aside0.mk (hbox); clear hb hbox hg; have hcz3 := blk_all2 BK153.out))
 go_loopg [3, 9] k (fun kq v3 v9 w' => ∃ (x3_1 : List ByteArray) (x9_1 : Int), v9 = .int .i64 x9_1 ∧ Aside0 (rule_line.l0 kq x3_1 l0_0 (l0_0.length : Int) x9_1 l0_0 a0_1 = some r) ∧ Aside0 (kq ≤ k) ∧ Aside0 (Kd.R Kd.string 9 w' w.heap.size (fun _ => True) v3 x3_1) ∧ Aside0 (w'.heap[gb153]? = some (.cells #[(.slice A0_0 l0_0.length c0_0), .int .u32 a0_1] 53 (0, 0))) ∧ Aside0 (Below w.heap.size w w'))
 case atStart => exact ⟨(([] : List ByteArray)), (0), eq_now, H', ⟨Nat.le_refl _⟩, ⟨by first | exact Kd.R_nil _ _ _ _ _ | exact Kd.N_nil _ _ _ _ _ | exact Kd.V_nil _ _ _ _ _ | exact Kd.Q_nil _ _ _ _ _ | exact Kd.S_nil _ _ _ _ _⟩, ⟨bk_now⟩, ⟨b_now⟩⟩
 case round =>
  clear H'
  clear hcz3
  obtain ⟨x3_1, x9_1, rfl, HA, HK1, HO_3, BK153, HB⟩ := hrel
  cases gk with
  | zero => exact absurd HA.out (by simp [rule_line.l0])
  | succ k1 =>
   have H := HA.out
   clear HA
   simp only [rule_line.l0] at H
   by_cases c4 : x9_1 < (l0_0.length : Int)
   ·rw [if_pos c4] at H
    have c4b0 : decide (x9_1 < (l0_0.length : Int)) = true := decide_eq_true c4
    clear c4
    by_cases c5 : 0 ≤ x9_1
    ·rw [if_pos c5] at H
     have c5b0 : decide (0 ≤ x9_1) = true := decide_eq_true c5
     clear c5
     by_cases c6 : x9_1 < (l0_0.length : Int)
     ·rw [if_pos c6] at H
      have c6b0 : decide (x9_1 < (l0_0.length : Int)) = true := decide_eq_true c6
      clear c6
      replace H := Option.bind_eq_some_iff.mp H; obtain ⟨t156, A70, H⟩ := H; try dsimp only at H
      have A7 := Aside0.mk A70
      clear A70
      by_cases c8 : x3_1.length < 8796093022208
      ·rw [if_pos c8] at H
       have LMc8 := Aside0.mk c8
       clear c8
       obtain ⟨y157, hy157⟩ : ∃ y_ : List ByteArray, y_ = (x3_1 ++ [t156]) := ⟨_, rfl⟩
       replace H : (rule_line.l0 k1 y157 l0_0 (l0_0.length : Int) (wrap64 (x9_1 + 1)) l0_0 a0_1) = some r := by first | (rw [hy157]; with_reducible exact H) | (have H2_ := (Option.bind_some _ _).symm.trans H; rw [hy157]; with_reducible exact H2_) | (have H2_ := (Option.bind_some _ _).symm.trans H; with_reducible exact H2_) | with_reducible exact H | (rw [hy157]; exact H) | exact H
       have Ny157 := Aside0.mk hy157
       clear hy157
       have H' := Aside0.mk H
       clear H
       have p154 : 0 ≤ (x9_1 : Int) := of_decide_eq_true (by first | (with_reducible assumption) | assumption)
       have q154 : x9_1 < (l0_0.length : Int) := of_decide_eq_true (by first | (with_reducible assumption) | assumption)
       obtain ⟨ad154, e154, hx154_0, hx154_1, hx154_2, hx154_3, hx154_4, hx154_5, hx154_6⟩ := at_T50 HR0_0.out x9_1 p154 q154
       cases e154
       replace hx154_0 := (HB.out.cell (World.block_lt_of_cell? w _ hx154_0)).trans hx154_0
       replace hx154_1 := (HB.out.cell (World.block_lt_of_cell? w _ hx154_1)).trans hx154_1
       replace hx154_2 := (HB.out.cell (World.block_lt_of_cell? w _ hx154_2)).trans hx154_2
       replace hx154_3 := (HB.out.cell (World.block_lt_of_cell? w _ hx154_3)).trans hx154_3
       replace hx154_4 := (HB.out.cell (World.block_lt_of_cell? w _ hx154_4)).trans hx154_4
       replace hx154_5 := (HB.out.cell (World.block_lt_of_cell? w _ hx154_5)).trans hx154_5
       replace hx154_6 := (HB.out.cell (World.block_lt_of_cell? w _ hx154_6)).trans hx154_6
       replace p154 := eq_true p154
       replace q154 := eq_true q154
       go_wp2_with (first | ((with_reducible refine gate_dst (N := 5) rfl ?_); refine sh_box 5 #[.bool false, .int .i64 0, .int .i64 0, .int .i64 0, .int .u64 0, .int .u64 0, .int .u64 0] 50 ?_; intro gb155 hg w9 hbox hb; have GE155 := sh_z (w := w) hg; have NB153_155 := sh_n BK153 hg; have NB155_153 := sh_s NB153_155; replace HO_3 := Aside0.mk (Kd.R_below (by (with_reducible repeat (first | apply Kd.R_alloc | apply Kd.R_drewN | apply Kd.R_drew)); exact HO_3.out) hb); replace BK153 := sh_k BK153 hb; replace HB := sh_b (w := w) hb; have BK155 := Aside0.mk (hbox); clear hb hbox hg; have hnb10 := NB155_153.out; have hnc10 := NB153_155.out; have hcz11 := blk_all7 BK155.out) | ((with_reducible refine gate_callee (f := 45) rfl ?_); refine sh_call (some 15) Tryd.func45 #[.agg #[.bool ((rd_T50 l0_0 x9_1).f0), .int .i64 ((rd_T50 l0_0 x9_1).f1), .int .i64 ((rd_T50 l0_0 x9_1).f2), .int .i64 ((rd_T50 l0_0 x9_1).f3), .int .u64 ((rd_T50 l0_0 x9_1).f4), .int .u64 ((rd_T50 l0_0 x9_1).f5), .int .u64 ((rd_T50 l0_0 x9_1).f6)]] ?_; (with_reducible refine (rule_text.calls k1 ((rd_T50 l0_0 x9_1).f0) ((rd_T50 l0_0 x9_1).f1) ((rd_T50 l0_0 x9_1).f2) ((rd_T50 l0_0 x9_1).f3) ((rd_T50 l0_0 x9_1).f4) ((rd_T50 l0_0 x9_1).f5) ((rd_T50 l0_0 x9_1).f6) t156 _ ?side1 A7.out).mono ?_); (case side1 => exact Kd.C_below HRG0.out b_now); rintro e w12 ⟨rfl, hb⟩; refine ⟨_, rfl, ?_⟩; replace HO_3 := Aside0.mk (Kd.R_below (by (with_reducible repeat (first | apply Kd.R_alloc | apply Kd.R_drewN | apply Kd.R_drew)); exact (Kd.R_mono (Kd.R_far (p := ⟨gb155, 6, none⟩) (Kd.R_far (p := ⟨gb155, 5, none⟩) (Kd.R_far (p := ⟨gb155, 4, none⟩) (Kd.R_far (p := ⟨gb155, 3, none⟩) (Kd.R_far (p := ⟨gb155, 2, none⟩) (Kd.R_far (p := ⟨gb155, 1, none⟩) (Kd.R_far (p := ⟨gb155, 0, none⟩) (Kd.R_types HO_3.out BK155.out (by decide)) (fun _ hk => hk.2) (.bool ((rd_T50 l0_0 x9_1).f0))) (fun _ hk => hk.2) (.int .i64 ((rd_T50 l0_0 x9_1).f1))) (fun _ hk => hk.2) (.int .i64 ((rd_T50 l0_0 x9_1).f2))) (fun _ hk => hk.2) (.int .i64 ((rd_T50 l0_0 x9_1).f3))) (fun _ hk => hk.2) (.int .u64 ((rd_T50 l0_0 x9_1).f4))) (fun _ hk => hk.2) (.int .u64 ((rd_T50 l0_0 x9_1).f5))) (fun _ hk => hk.2) (.int .u64 ((rd_T50 l0_0 x9_1).f6))) (fun _ h_ => h_.1))) hb); replace BK153 := sh_kp (g := gb153) (t := 53) #[.slice (some ad154) l0_0.length c0_0, .int .u32 a0_1] hb; replace BK155 := sh_kp (g := gb155) (t := 50) #[.bool ((rd_T50 l0_0 x9_1).f0), .int .i64 ((rd_T50 l0_0 x9_1).f1), .int .i64 ((rd_T50 l0_0 x9_1).f2), .int .i64 ((rd_T50 l0_0 x9_1).f3), .int .u64 ((rd_T50 l0_0 x9_1).f4), .int .u64 ((rd_T50 l0_0 x9_1).f5), .int .u64 ((rd_T50 l0_0 x9_1).f6)] hb; replace HB := sh_b (w := w) hb; (try clear hb); (try clear hb2); (try clear hk); (try clear hi)) | ((with_reducible refine gate_builtin (b := .append) (xs := #[.tmp 13, .tmp 16]) rfl ?_); at_builtin; refine Kd.R_append Kd.string (w0 := w) w.heap.size rfl (.tmp 13) (.tmp 16) 68 9 (.string ⟨#[]⟩) 16 rfl Tryd.underlying68 info9 rfl (by decide) (by omega) u3 x3_1 t156 [.string t156] (fun _ => True) (fun _ => False) rfl rfl ?aP (fun _ hk => hk.elim) ?aF ?aO ?aB ?aS ?aL ?_; (case aP => exact rfl); (case aB => exact b_now); (case aF => exact (fun _ _ => trivial)); (case aO => exact (by (with_reducible repeat (first | apply Kd.R_alloc | apply Kd.R_drewN | apply Kd.R_drew)); exact HO_3.out)); (case aS => exact (below_size b_now)); (case aL => have := LMc8.out; omega); intro v158 w13 ho hb hg hat; rw [← Ny157.out] at ho; have n0_ := Aside0.mk (blk_grown (g := gb153) (o := .cells #[.slice (some ad154) l0_0.length c0_0, .int .u32 a0_1] 53 (0, 0)) bk_now hg (Kd.R_ne HO_3.out BK153.out (by decide))); have n1_ := Aside0.mk (blk_grown (g := gb155) (o := .cells #[.bool ((rd_T50 l0_0 x9_1).f0), .int .i64 ((rd_T50 l0_0 x9_1).f1), .int .i64 ((rd_T50 l0_0 x9_1).f2), .int .i64 ((rd_T50 l0_0 x9_1).f3), .int .u64 ((rd_T50 l0_0 x9_1).f4), .int .u64 ((rd_T50 l0_0 x9_1).f5), .int .u64 ((rd_T50 l0_0 x9_1).f6)] 50 (0, 0)) bk_now hg (Kd.R_ne HO_3.out BK155.out (by decide))); have n2_ := Aside0.mk (hb); have n3_ := Aside0.mk (ho); clear BK153; clear BK155; clear HB; clear HO_3; have BK153 := n0_; have BK155 := n1_; have HB := n2_; have HO159 := n3_; clear n0_ n1_ n2_ n3_; clear ho hb hg hat))
       go_roundg k1
       case measure => have := HK1.out; omega
       case rel => exact ⟨(y157), (wrap64 (x9_1 + 1)), eq_now, H', ⟨by have := HK1.out; omega⟩, ⟨by (with_reducible repeat (first | apply Kd.R_alloc | apply Kd.R_drewN | apply Kd.R_drew)); exact HO159.out⟩, ⟨bk_now⟩, ⟨b_now⟩⟩
      ·rw [if_neg c8] at H
       exact absurd H (by simp)
     ·rw [if_neg c6] at H
      exact absurd H (by simp)
    ·rw [if_neg c5] at H
     exact absurd H (by simp)
   ·rw [if_neg c4] at H
    have c4b0 : decide (x9_1 < (l0_0.length : Int)) = false := decide_eq_false c4
    clear c4
    by_cases c14 : (x3_1.length : Int) = 0
    ·rw [if_pos c14] at H
     have c14b0 : ((x3_1.length : Int) == 0) = true := beq_iff_eq.mpr c14
     have c14b1 : ((x3_1.length : Int) != 0) = false := bne_eq_false_iff_eq.mpr c14
     clear c14
     by_cases c15 : x3_1.length < 8796093022208
     ·rw [if_pos c15] at H
      have LMc15 := Aside0.mk c15
      clear c15
      obtain ⟨y160, hy160⟩ : ∃ y_ : List ByteArray, y_ = (x3_1 ++ [(⟨#[97, 110, 121]⟩ : ByteArray)]) := ⟨_, rfl⟩
      replace H : ((strings_Join.f y160 (⟨#[44, 32]⟩ : ByteArray)).bind fun t163 => (if t163.size + 4 ≤ 9223372036854775807 then ((rule_digits.f (IntKind.u64.wrap (a0_1))).bind fun t164 => (if (t163 ++ (⟨#[32, 45, 62, 32]⟩ : ByteArray)).size + t164.size ≤ 9223372036854775807 then (some ((t163 ++ (⟨#[32, 45, 62, 32]⟩ : ByteArray)) ++ t164)) else (none))) else (none))) = some r := by first | (rw [hy160]; with_reducible exact H) | (have H2_ := (Option.bind_some _ _).symm.trans H; rw [hy160]; with_reducible exact H2_) | (have H2_ := (Option.bind_some _ _).symm.trans H; with_reducible exact H2_) | with_reducible exact H | (rw [hy160]; exact H) | exact H
      have Ny160 := Aside0.mk hy160
      clear hy160
      replace H := Option.bind_eq_some_iff.mp H; obtain ⟨t163, A160, H⟩ := H; try dsimp only at H
      have A16 := Aside0.mk A160
      clear A160
      by_cases c17 : t163.size + 4 ≤ 9223372036854775807
      ·rw [if_pos c17] at H
       have c17b0 := eq_true c17
       have c17b1 : decide (t163.size + 4 ≤ 9223372036854775807) = true := decide_eq_true c17
       try have c17b2 : (9223372036854775807 < t163.size + 4) = False := eq_false (Nat.not_lt.2 c17)
       replace H := Option.bind_eq_some_iff.mp H; obtain ⟨t164, A180, H⟩ := H; try dsimp only at H
       have A18 := Aside0.mk A180
       clear A180
       by_cases c19 : (t163 ++ (⟨#[32, 45, 62, 32]⟩ : ByteArray)).size + t164.size ≤ 9223372036854775807
       ·rw [if_pos c19] at H
        have c19b0 := eq_true c19
        have c19_y0 : ((9223372036854775807 < t163.size + 4 + t164.size) : Prop) = False := eq_false (by have h_ := c19; simp only [ByteArray.size_append] at h_; exact Nat.not_lt.2 h_)
        have c19_z0 : ((t163.size + 4 + t164.size ≤ 9223372036854775807) : Prop) = True := eq_true (by have h_ := c19; simp only [ByteArray.size_append] at h_; exact h_)
        have c19b1 : decide ((t163 ++ (⟨#[32, 45, 62, 32]⟩ : ByteArray)).size + t164.size ≤ 9223372036854775807) = true := decide_eq_true c19
        try have c19b2 : (9223372036854775807 < (t163 ++ (⟨#[32, 45, 62, 32]⟩ : ByteArray)).size + t164.size) = False := eq_false (Nat.not_lt.2 c19)
        obtain rfl := Option.some.inj H
        obtain ⟨Ao20, co20, eo20⟩ := Kd.R_slice HO_3.out
        subst eo20
        try go_wp2_with (first | ((with_reducible refine gate_builtin (b := .append) (xs := #[.tmp 22, .tmp 23]) rfl ?_); at_builtin; refine Kd.R_append Kd.string (w0 := w) w.heap.size rfl (.tmp 22) (.tmp 23) 68 9 (.string ⟨#[]⟩) 16 rfl Tryd.underlying68 info9 rfl (by decide) (by omega) (.slice Ao20 x3_1.length co20) x3_1 (⟨#[97, 110, 121]⟩ : ByteArray) [.string (⟨#[97, 110, 121]⟩ : ByteArray)] (fun _ => True) (fun _ => False) rfl rfl ?aP (fun _ hk => hk.elim) ?aF ?aO ?aB ?aS ?aL ?_; (case aP => exact rfl); (case aB => exact b_now); (case aF => exact (fun _ _ => trivial)); (case aO => exact (by (with_reducible repeat (first | apply Kd.R_alloc | apply Kd.R_drewN | apply Kd.R_drew)); exact HO_3.out)); (case aS => exact (below_size b_now)); (case aL => have := LMc15.out; omega); intro v161 w21 ho hb hg hat; rw [← Ny160.out] at ho; have n0_ := Aside0.mk (blk_grown (g := gb153) (o := .cells #[.slice A0_0 l0_0.length c0_0, .int .u32 a0_1] 53 (0, 0)) bk_now hg (Kd.R_ne HO_3.out BK153.out (by decide))); have n1_ := Aside0.mk (hb); have n2_ := Aside0.mk (ho); clear BK153; clear HB; clear HO_3; have BK153 := n0_; have HB := n1_; have HO162 := n2_; clear n0_ n1_ n2_; clear ho hb hg hat))
        have n0_ := Aside0.mk (Kd.R_drew HO162.out)
        have n1_ := Aside0.mk (blk_drew BK153.out)
        have n2_ := Aside0.mk (below_drew1 HB.out)
        clear HO162
        clear BK153
        clear HB
        have HO162 := n0_
        have BK153 := n1_
        have HB := n2_
        clear n0_ n1_ n2_
        obtain ⟨Ao23, co23, eo23⟩ := Kd.R_slice HO162.out
        (first | subst eo23 | (injection eo23 with f1_ f2_ f3_; have f4_ := f1_.symm; have f5_ := f3_.symm; clear f1_ f2_ f3_; subst f4_; subst f5_))
        refine start_ (n := 9) (S := fun w' => w'.cell? ⟨gb153, 0, none⟩ = some (.slice A0_0 l0_0.length c0_0) ∧ w'.cell? ⟨gb153, 1, none⟩ = some (.int .u32 a0_1)) (ds := []) (fl 0 9) (by kernel_rfl) rfl rfl ⟨(blk_cell BK153.out 0).trans rfl, (blk_cell BK153.out 1).trans rfl⟩ (fun hHeld => ?_); refine with_tabW rule_line.tab9 rule_line.bits9 (fun HT_ HW_ => ?_)
        generalize w21.drew = w22 at HO162 BK153 HB hHeld ⊢
        refine pure_ (i := 0) (N := some 25) (v := ?_) (a' := ?_) (fl 1 8) rfl rfl (any_of HT_.out (by kernel_rfl)) (fun _ _ _ h => h) (Or.inl ⟨by rfl, ?_⟩) ?_ ?_
        rotate_left; exact ga_; rotate_left; exact gb_
        refine pure_ (i := 3) (N := some 28) (v := ?_) (a' := ?_) (fm 9 9) rfl rfl (any_of HT_.out (by kernel_rfl)) (fun _ _ _ h => h) (Or.inl ⟨by rfl, ?_⟩) ?_ ?_
        rotate_left; exact ga_; rotate_left; exact gb_
        refine take_ (i := 4) (N := some 29) (v := ?_) (a' := ?_) (fm 9 25) rfl rfl (take_ofW HT_.out HW_.out (by kernel_rfl)) (fun _ _ _ h => h) (Or.inl ⟨by rfl, ?_⟩) hHeld ?_ ?_
        rotate_left; exact ga2_; rotate_left; exact gb_
        refine pure_ (i := 5) (N := some 30) (v := ?_) (a' := ?_) (fm 9 57) rfl rfl (any_of HT_.out (by kernel_rfl)) (fun _ _ _ h => h) (Or.inl ⟨by rfl, ?_⟩) ?_ ?_
        rotate_left; exact ga_; rotate_left; exact gb_
        refine one_ (i := 1) (N := some 26) (fm 9 59) rfl rfl (one_of HT_.out (by kernel_rfl)) (by decide) (fun K hK => ?_)
        refine goes_ Tryd.func46 (by kernel_rfl) rfl #[.slice Ao23 y160.length co23, .string (⟨#[44, 32]⟩ : ByteArray)] (by rfl) rfl rfl (by (try simp only [List.map_toArray, List.map_cons, List.map_nil]); first | done | rfl | (simp only [List.length_drop, List.length_take]; rfl)) ?_
        with_reducible refine (strings_Join.calls _ _ y160 (⟨#[44, 32]⟩ : ByteArray) t163 _ ?side1 ?side2 A16.out).mono ?_
        (case side1 => repeat (first | exact (Kd.R_reads' HO162.out).2.2 | (with_reducible refine Kd.C_alloc ?_ _) | (with_reducible refine Kd.C_drewN ?_ _) | (with_reducible refine Kd.C_drew ?_)))
        (case side2 => exact (Kd.R_reads' HO162.out).2.1)
        rintro e w24 ⟨rfl, hb⟩
        refine ⟨_, rfl, ?_⟩
        have n0_ := Aside0.mk (Kd.R_below (by (with_reducible repeat (first | apply Kd.R_alloc | apply Kd.R_drewN | apply Kd.R_drew)); exact HO162.out) hb)
        have n1_ := Aside0.mk (blk_below (g := gb153) (o := .cells #[.slice A0_0 l0_0.length c0_0, .int .u32 a0_1] 53 (0, 0)) bk_now hb)
        have n2_ := Aside0.mk (below_step b_now hb)
        clear HO162
        clear BK153
        clear HB
        have HO162 := n0_
        have BK153 := n1_
        have HB := n2_
        clear n0_ n1_ n2_
        (try clear hb)
        (try clear hb2)
        (try clear hk)
        (try clear hi)
        refine hK.out _ _ ⟨(blk_cell BK153.out 0).trans rfl, (blk_cell BK153.out 1).trans rfl⟩ (fun hHeld => ?_)
        clear hK K
        refine norm_ (a' := ?_) ?_ ?_
        rotate_left
        ·show Act.put _ (some 26) _ = _
         simp only [Act.put, List.setIfInBounds_toArray, List.set_cons_zero, List.set_cons_succ, i64_w, i32_w]
         rfl
        refine pure_ (i := 2) (N := some 27) (v := ?_) (a' := ?_) (fl 6 3) rfl rfl (any_of HT_.out (by kernel_rfl)) (fun _ _ _ h => h) (Or.inl ⟨by rfl, ?_⟩) ?_ ?_
        rotate_left; exact ga_; rotate_left; exact gb_
        refine one_ (i := 6) (N := some 31) (fl 7 2) rfl rfl (one_of HT_.out (by kernel_rfl)) (by decide) (fun K hK => ?_)
        refine goes_ Tryd.func47 (by kernel_rfl) rfl #[.int .u64 (IntKind.u64.wrap (a0_1))] (by rfl) rfl rfl (by (try simp only [List.map_toArray, List.map_cons, List.map_nil]); first | done | rfl | (simp only [List.length_drop, List.length_take]; rfl)) ?_
        with_reducible refine (rule_digits.calls (IntKind.u64.wrap (a0_1)) t164 _ ?side1 A18.out).mono ?_
        (case side1 => repeat (first | exact (Kd.C_below HRG0.out HB.out) | (with_reducible refine Kd.C_alloc ?_ _) | (with_reducible refine Kd.C_drewN ?_ _) | (with_reducible refine Kd.C_drew ?_)))
        rintro e w25 ⟨rfl, hb⟩
        refine ⟨_, rfl, ?_⟩
        have n0_ := Aside0.mk (Kd.R_below (by (with_reducible repeat (first | apply Kd.R_alloc | apply Kd.R_drewN | apply Kd.R_drew)); exact HO162.out) hb)
        have n1_ := Aside0.mk (blk_below (g := gb153) (o := .cells #[.slice A0_0 l0_0.length c0_0, .int .u32 a0_1] 53 (0, 0)) bk_now hb)
        have n2_ := Aside0.mk (below_step b_now hb)
        clear HO162
        clear BK153
        clear HB
        have HO162 := n0_
        have BK153 := n1_
        have HB := n2_
        clear n0_ n1_ n2_
        (try clear hb)
        (try clear hb2)
        (try clear hk)
        (try clear hi)
        refine hK.out _ _ ⟨(blk_cell BK153.out 0).trans rfl, (blk_cell BK153.out 1).trans rfl⟩ (fun hHeld => ?_)
        clear hK K
        refine norm_ (a' := ?_) ?_ ?_
        rotate_left
        ·show Act.put _ (some 31) _ = _
         simp only [Act.put, List.setIfInBounds_toArray, List.set_cons_zero, List.set_cons_succ, i64_w, i32_w]
         rfl
        refine pure_ (i := 7) (N := some 32) (v := ?_) (a' := ?_) (fl 8 1) rfl rfl (any_of HT_.out (by kernel_rfl)) (fun _ _ _ h => h) (Or.inl ⟨by rfl, ?_⟩) ?_ ?_
        rotate_left; exact ga_; rotate_left; exact gb_
        refine pure_ (i := 8) (N := some 2) (v := ?_) (a' := ?_) (fl 9 0) rfl rfl (any_of HT_.out (by kernel_rfl)) (fun _ _ _ h => h) (Or.inl ⟨by rfl, ?_⟩) ?_ ?_
        rotate_left; exact ga_; rotate_left; exact gb_
        refine done_ (done_of HT_.out (by kernel_rfl)) ?_
        try go_wp2
        go_ret
        exact ⟨ret_now, b_now⟩
       ·rw [if_neg c19] at H
        exact absurd H (by simp)
      ·rw [if_neg c17] at H
       exact absurd H (by simp)
     ·rw [if_neg c15] at H
      exact absurd H (by simp)
    ·rw [if_neg c14] at H
     have c14b0 : ((x3_1.length : Int) == 0) = false := beq_eq_false_iff_ne.mpr c14
     have c14b1 : ((x3_1.length : Int) != 0) = true := bne_iff_ne.mpr c14
     have c14b2 : ¬ (x3_1 = []) := fun h_ => c14 (by rw [h_]; rfl)
     replace H := Option.bind_eq_some_iff.mp H; obtain ⟨t165, A260, H⟩ := H; try dsimp only at H
     have A26 := Aside0.mk A260
     clear A260
     by_cases c27 : t165.size + 4 ≤ 9223372036854775807
     ·rw [if_pos c27] at H
      have c27b0 := eq_true c27
      have c27b1 : decide (t165.size + 4 ≤ 9223372036854775807) = true := decide_eq_true c27
      try have c27b2 : (9223372036854775807 < t165.size + 4) = False := eq_false (Nat.not_lt.2 c27)
      replace H := Option.bind_eq_some_iff.mp H; obtain ⟨t166, A280, H⟩ := H; try dsimp only at H
      have A28 := Aside0.mk A280
      clear A280
      by_cases c29 : (t165 ++ (⟨#[32, 45, 62, 32]⟩ : ByteArray)).size + t166.size ≤ 9223372036854775807
      ·rw [if_pos c29] at H
       have c29b0 := eq_true c29
       have c29_y0 : ((9223372036854775807 < t165.size + 4 + t166.size) : Prop) = False := eq_false (by have h_ := c29; simp only [ByteArray.size_append] at h_; exact Nat.not_lt.2 h_)
       have c29_z0 : ((t165.size + 4 + t166.size ≤ 9223372036854775807) : Prop) = True := eq_true (by have h_ := c29; simp only [ByteArray.size_append] at h_; exact h_)
       have c29b1 : decide ((t165 ++ (⟨#[32, 45, 62, 32]⟩ : ByteArray)).size + t166.size ≤ 9223372036854775807) = true := decide_eq_true c29
       try have c29b2 : (9223372036854775807 < (t165 ++ (⟨#[32, 45, 62, 32]⟩ : ByteArray)).size + t166.size) = False := eq_false (Nat.not_lt.2 c29)
       obtain rfl := Option.some.inj H
       obtain ⟨Ao30, co30, eo30⟩ := Kd.R_slice HO_3.out
       subst eo30
       try go_wp2
       have n0_ := Aside0.mk (Kd.R_drew HO_3.out)
       have n1_ := Aside0.mk (blk_drew BK153.out)
       have n2_ := Aside0.mk (below_drew1 HB.out)
       clear HO_3
       clear BK153
       clear HB
       have HO_3 := n0_
       have BK153 := n1_
       have HB := n2_
       clear n0_ n1_ n2_
       refine start_ (n := 9) (S := fun w' => w'.cell? ⟨gb153, 0, none⟩ = some (.slice A0_0 l0_0.length c0_0) ∧ w'.cell? ⟨gb153, 1, none⟩ = some (.int .u32 a0_1)) (ds := []) (fl 0 9) (by kernel_rfl) rfl rfl ⟨(blk_cell BK153.out 0).trans rfl, (blk_cell BK153.out 1).trans rfl⟩ (fun hHeld => ?_); refine with_tabW rule_line.tab9 rule_line.bits9 (fun HT_ HW_ => ?_)
       generalize wr.drew = w31 at HO_3 BK153 HB hHeld ⊢
       refine pure_ (i := 0) (N := some 25) (v := ?_) (a' := ?_) (fl 1 8) rfl rfl (any_of HT_.out (by kernel_rfl)) (fun _ _ _ h => h) (Or.inl ⟨by rfl, ?_⟩) ?_ ?_
       rotate_left; exact ga_; rotate_left; exact gb_
       refine pure_ (i := 3) (N := some 28) (v := ?_) (a' := ?_) (fm 9 9) rfl rfl (any_of HT_.out (by kernel_rfl)) (fun _ _ _ h => h) (Or.inl ⟨by rfl, ?_⟩) ?_ ?_
       rotate_left; exact ga_; rotate_left; exact gb_
       refine take_ (i := 4) (N := some 29) (v := ?_) (a' := ?_) (fm 9 25) rfl rfl (take_ofW HT_.out HW_.out (by kernel_rfl)) (fun _ _ _ h => h) (Or.inl ⟨by rfl, ?_⟩) hHeld ?_ ?_
       rotate_left; exact ga2_; rotate_left; exact gb_
       refine pure_ (i := 5) (N := some 30) (v := ?_) (a' := ?_) (fm 9 57) rfl rfl (any_of HT_.out (by kernel_rfl)) (fun _ _ _ h => h) (Or.inl ⟨by rfl, ?_⟩) ?_ ?_
       rotate_left; exact ga_; rotate_left; exact gb_
       refine one_ (i := 1) (N := some 26) (fm 9 59) rfl rfl (one_of HT_.out (by kernel_rfl)) (by decide) (fun K hK => ?_)
       refine goes_ Tryd.func46 (by kernel_rfl) rfl #[.slice Ao30 x3_1.length co30, .string (⟨#[44, 32]⟩ : ByteArray)] (by rfl) rfl rfl (by (try simp only [List.map_toArray, List.map_cons, List.map_nil]); first | done | rfl | (simp only [List.length_drop, List.length_take]; rfl)) ?_
       with_reducible refine (strings_Join.calls _ _ x3_1 (⟨#[44, 32]⟩ : ByteArray) t165 _ ?side1 ?side2 A26.out).mono ?_
       (case side1 => repeat (first | exact (Kd.R_reads' HO_3.out).2.2 | (with_reducible refine Kd.C_alloc ?_ _) | (with_reducible refine Kd.C_drewN ?_ _) | (with_reducible refine Kd.C_drew ?_)))
       (case side2 => exact (Kd.R_reads' HO_3.out).2.1)
       rintro e w32 ⟨rfl, hb⟩
       refine ⟨_, rfl, ?_⟩
       have n0_ := Aside0.mk (Kd.R_below (by (with_reducible repeat (first | apply Kd.R_alloc | apply Kd.R_drewN | apply Kd.R_drew)); exact HO_3.out) hb)
       have n1_ := Aside0.mk (blk_below (g := gb153) (o := .cells #[.slice A0_0 l0_0.length c0_0, .int .u32 a0_1] 53 (0, 0)) bk_now hb)
       have n2_ := Aside0.mk (below_step b_now hb)
       clear HO_3
       clear BK153
       clear HB
       have HO_3 := n0_
       have BK153 := n1_
       have HB := n2_
       clear n0_ n1_ n2_
       (try clear hb)
       (try clear hb2)
       (try clear hk)
       (try clear hi)
       refine hK.out _ _ ⟨(blk_cell BK153.out 0).trans rfl, (blk_cell BK153.out 1).trans rfl⟩ (fun hHeld => ?_)
       clear hK K
       refine norm_ (a' := ?_) ?_ ?_
       rotate_left
       ·show Act.put _ (some 26) _ = _
        simp only [Act.put, List.setIfInBounds_toArray, List.set_cons_zero, List.set_cons_succ, i64_w, i32_w]
        rfl
       refine pure_ (i := 2) (N := some 27) (v := ?_) (a' := ?_) (fl 6 3) rfl rfl (any_of HT_.out (by kernel_rfl)) (fun _ _ _ h => h) (Or.inl ⟨by rfl, ?_⟩) ?_ ?_
       rotate_left; exact ga_; rotate_left; exact gb_
       refine one_ (i := 6) (N := some 31) (fl 7 2) rfl rfl (one_of HT_.out (by kernel_rfl)) (by decide) (fun K hK => ?_)
       refine goes_ Tryd.func47 (by kernel_rfl) rfl #[.int .u64 (IntKind.u64.wrap (a0_1))] (by rfl) rfl rfl (by (try simp only [List.map_toArray, List.map_cons, List.map_nil]); first | done | rfl | (simp only [List.length_drop, List.length_take]; rfl)) ?_
       with_reducible refine (rule_digits.calls (IntKind.u64.wrap (a0_1)) t166 _ ?side1 A28.out).mono ?_
       (case side1 => repeat (first | exact (Kd.C_below HRG0.out HB.out) | (with_reducible refine Kd.C_alloc ?_ _) | (with_reducible refine Kd.C_drewN ?_ _) | (with_reducible refine Kd.C_drew ?_)))
       rintro e w33 ⟨rfl, hb⟩
       refine ⟨_, rfl, ?_⟩
       have n0_ := Aside0.mk (Kd.R_below (by (with_reducible repeat (first | apply Kd.R_alloc | apply Kd.R_drewN | apply Kd.R_drew)); exact HO_3.out) hb)
       have n1_ := Aside0.mk (blk_below (g := gb153) (o := .cells #[.slice A0_0 l0_0.length c0_0, .int .u32 a0_1] 53 (0, 0)) bk_now hb)
       have n2_ := Aside0.mk (below_step b_now hb)
       clear HO_3
       clear BK153
       clear HB
       have HO_3 := n0_
       have BK153 := n1_
       have HB := n2_
       clear n0_ n1_ n2_
       (try clear hb)
       (try clear hb2)
       (try clear hk)
       (try clear hi)
       refine hK.out _ _ ⟨(blk_cell BK153.out 0).trans rfl, (blk_cell BK153.out 1).trans rfl⟩ (fun hHeld => ?_)
       clear hK K
       refine norm_ (a' := ?_) ?_ ?_
       rotate_left
       ·show Act.put _ (some 31) _ = _
        simp only [Act.put, List.setIfInBounds_toArray, List.set_cons_zero, List.set_cons_succ, i64_w, i32_w]
        rfl
       refine pure_ (i := 7) (N := some 32) (v := ?_) (a' := ?_) (fl 8 1) rfl rfl (any_of HT_.out (by kernel_rfl)) (fun _ _ _ h => h) (Or.inl ⟨by rfl, ?_⟩) ?_ ?_
       rotate_left; exact ga_; rotate_left; exact gb_
       refine pure_ (i := 8) (N := some 2) (v := ?_) (a' := ?_) (fl 9 0) rfl rfl (any_of HT_.out (by kernel_rfl)) (fun _ _ _ h => h) (Or.inl ⟨by rfl, ?_⟩) ?_ ?_
       rotate_left; exact ga_; rotate_left; exact gb_
       refine done_ (done_of HT_.out (by kernel_rfl)) ?_
       try go_wp2
       go_ret
       exact ⟨ret_now, b_now⟩
      ·rw [if_neg c29] at H
       exact absurd H (by simp)
     ·rw [if_neg c27] at H
      exact absurd H (by simp)

-- NOT PRINTED: function 32 (strings_Builder_WriteByte)

/-! ### rule_Print: function 15 -/
def rule_Print.l0 : Nat → ByteArray → List (S53) → Int → Int → Option (ByteArray × Int)
 | 0, _, _, _, _ => none
 | k + 1, x6, x17, x18, x19 => if x19 < x18 then (if 0 ≤ x19 then (if x19 < (x17.length : Int) then ((rule_line.f k ((rd_T53 x17 x19).f0) ((rd_T53 x17 x19).f1)).bind fun t171 => (if x6.size + t171.size ≤ 140737488355328 then (if (x6 ++ t171).size + 1 ≤ 140737488355328 then (rule_Print.l0 k ((x6 ++ t171) ++ (⟨#[10]⟩ : ByteArray)) x17 x18 (wrap64 (x19 + 1))) else (none)) else (none))) else (none)) else (none)) else (some (x6, 0))
def rule_Print.f (k : Nat) (l0 : List (S53)) : Option (ByteArray × Int) := (rule_Check.f k l0).bind fun bt167 => (if bt167.2 = 0 then (rule_Print.l0 k (⟨#[]⟩ : ByteArray) l0 (l0.length : Int) 0) else (some ((⟨#[]⟩ : ByteArray), bt167.2)))
theorem rule_Print.mono_l : ∀ k, (∀ y0 y1 y2 y3, LeO (rule_Print.l0 k y0 y1 y2 y3) (rule_Print.l0 (k + 1) y0 y1 y2 y3))
 | 0 => fun _ _ _ _ r h => by simp [rule_Print.l0] at h
 | k + 1 => by
  have ih0 := rule_Print.mono_l k
  ·intro y0 y1 y2 y3
   unfold rule_Print.l0
   repeat' first
   | (with_reducible exact ih0 _ _ _ _)
   | (with_reducible exact rule_Check.mono _ _)
   | (with_reducible exact rule_line.mono _ _ _)
   | (with_reducible exact LeO.refl _)
   | (with_reducible exact LeO.none _)
   | (with_reducible refine LeO.ite ?_ ?_)
   | (with_reducible refine LeO.bind ?_ (fun _ => ?_))
   | exact ih0 _ _ _ _
   | exact rule_Check.mono _ _
   | exact rule_line.mono _ _ _
   | exact LeO.none _
   | refine LeO.ite ?_ ?_
   | refine LeO.bind ?_ (fun _ => ?_)
theorem rule_Print.mono : ∀ a0 k, LeO (rule_Print.f k a0) (rule_Print.f (k + 1) a0) := by
 intro a0 k
 have ih0 := rule_Print.mono_l k
 unfold rule_Print.f
 repeat' first
   | (with_reducible exact ih0 _ _ _ _)
   | (with_reducible exact rule_Check.mono _ _)
   | (with_reducible exact rule_line.mono _ _ _)
   | (with_reducible exact LeO.refl _)
   | (with_reducible exact LeO.none _)
   | (with_reducible refine LeO.ite ?_ ?_)
   | (with_reducible refine LeO.bind ?_ (fun _ => ?_))
   | exact ih0 _ _ _ _
   | exact rule_Check.mono _ _
   | exact rule_line.mono _ _ _
   | exact LeO.none _
   | refine LeO.ite ?_ ?_
   | refine LeO.bind ?_ (fun _ => ?_)
set_option maxHeartbeats 8000000 in
set_option maxRecDepth 100000 in
theorem rule_Print.calls (k : Nat) (A0 : Option Addr) (c0 : Nat) (l0 : List (S53)) (r1 : ByteArray) (r2 : Int) (w : World) (hr0 : Kd.C k53 w A0 l0.length l0) (hc0 : l0.length ≤ c0) (hrG0 : Kd.C kGF w (some ⟨0, 0, none⟩) gl0.length gl0) (h : rule_Print.f k l0 = some (r1, r2)) :
  Calls Tryd.prog 15 #[.slice A0 l0.length c0] w fun e w' => e = .returned (.tuple #[.string r1, .int .i64 r2]) ∧ Below w.heap.size w w' := by
 have hu53 := Tryd.underlying53
 have HR0 := Aside0.mk hr0
 have HC0 := Aside0.mk hc0
 clear hr0 hc0
 have HRG0 := Aside0.mk hrG0
 clear hrG0
 have HB := Aside0.mk (Below.refl w.heap.size w)
 have H : ((rule_Check.f k l0).bind fun bt167 => (if bt167.2 = 0 then (rule_Print.l0 k (⟨#[]⟩ : ByteArray) l0 (l0.length : Int) 0) else (some ((⟨#[]⟩ : ByteArray), bt167.2)))) = some (r1, r2) := h
 clear h
 replace H := Option.bind_eq_some_iff.mp H; obtain ⟨⟨t167, t168⟩, A20, H⟩ := H; try dsimp only at H
 have A2 := Aside0.mk A20
 clear A20
 by_cases c3 : t168 = 0
 ·rw [if_pos c3] at H
  have c3b0 : (t168 == 0) = true := beq_iff_eq.mpr c3
  have c3b1 : (t168 != 0) = false := bne_eq_false_iff_eq.mpr c3
  clear c3
  have H' := Aside0.mk H
  clear H
  go_enter Tryd.func15, Tryd.ntmps15
  go_wp2_with (first | ((with_reducible refine gate_callee (f := 13) rfl ?_); refine sh_call (some 11) Tryd.func13 #[.slice A0 l0.length c0] ?_; (with_reducible refine (rule_Check.calls k _ _ l0 t167 t168 _ ?side1 ?side2 A2.out).mono ?_); (case side1 => repeat (first | exact HR0.out | (with_reducible refine Kd.C_alloc ?_ _) | (with_reducible refine Kd.C_drewN ?_ _) | (with_reducible refine Kd.C_drew ?_))); (case side2 => exact HC0.out); rintro e w4 ⟨rfl, hb⟩; refine ⟨_, rfl, ?_⟩; replace HB := sh_b (w := w) hb; (try clear hb); (try clear hb2); (try clear hk); (try clear hi)) | ((with_reducible refine gate_dst (N := 6) rfl ?_); refine sh_box 6 #[.pointer none, .slice none 0 0] 76 ?_; intro gb6 hg w5 hbox hb; have GE6 := sh_z (w := w) hg; replace HB := sh_b (w := w) hb; have HI6 := Aside0.mk (ib_fresh (e := 5) hbox); clear hb hbox hg))
  go_loopg [19] k (fun kq v19 w' => ∃ (x6_1 : ByteArray) (x19_1 : Int), v19 = .int .i64 x19_1 ∧ Aside0 (rule_Print.l0 kq x6_1 l0 (l0.length : Int) x19_1 = some (r1, r2)) ∧ Aside0 (kq ≤ k) ∧ Aside0 (Below w.heap.size w w') ∧ Aside0 (Lib.IsBuilderF 76 5 gb6 gb6 (Lib.strCells x6_1) w'))
  case atStart => exact ⟨((⟨#[]⟩ : ByteArray)), (0), eq_now, H', ⟨Nat.le_refl _⟩, ⟨b_now⟩, HI6⟩
  case round =>
   clear H'
   clear c3b0 c3b1
   obtain ⟨x6_1, x19_1, rfl, HA, HK1, HB, HI⟩ := hrel
   cases gk with
   | zero => exact absurd HA.out (by simp [rule_Print.l0])
   | succ k1 =>
    have H := HA.out
    clear HA
    simp only [rule_Print.l0] at H
    by_cases c5 : x19_1 < (l0.length : Int)
    ·rw [if_pos c5] at H
     have c5b0 : decide (x19_1 < (l0.length : Int)) = true := decide_eq_true c5
     clear c5
     by_cases c6 : 0 ≤ x19_1
     ·rw [if_pos c6] at H
      have c6b0 : decide (0 ≤ x19_1) = true := decide_eq_true c6
      clear c6
      by_cases c7 : x19_1 < (l0.length : Int)
      ·rw [if_pos c7] at H
       have c7b0 : decide (x19_1 < (l0.length : Int)) = true := decide_eq_true c7
       clear c7
       replace H := Option.bind_eq_some_iff.mp H; obtain ⟨t171, A80, H⟩ := H; try dsimp only at H
       have A8 := Aside0.mk A80
       clear A80
       by_cases c9 : x6_1.size + t171.size ≤ 140737488355328
       ·rw [if_pos c9] at H
        have c9b0 := eq_true c9
        have c9b1 : decide (x6_1.size + t171.size ≤ 140737488355328) = true := decide_eq_true c9
        try have c9b2 : (140737488355328 < x6_1.size + t171.size) = False := eq_false (Nat.not_lt.2 c9)
        by_cases c10 : (x6_1 ++ t171).size + 1 ≤ 140737488355328
        ·rw [if_pos c10] at H
         have c10b0 := eq_true c10
         have c10_y0 : ((140737488355328 < x6_1.size + t171.size + 1) : Prop) = False := eq_false (by have h_ := c10; simp only [ByteArray.size_append] at h_; exact Nat.not_lt.2 h_)
         have c10_z0 : ((x6_1.size + t171.size + 1 ≤ 140737488355328) : Prop) = True := eq_true (by have h_ := c10; simp only [ByteArray.size_append] at h_; exact h_)
         have c10b1 : decide ((x6_1 ++ t171).size + 1 ≤ 140737488355328) = true := decide_eq_true c10
         try have c10b2 : (140737488355328 < (x6_1 ++ t171).size + 1) = False := eq_false (Nat.not_lt.2 c10)
         have H' := Aside0.mk H
         clear H
         have p169 : 0 ≤ (x19_1 : Int) := of_decide_eq_true (by first | (with_reducible assumption) | assumption)
         have q169 : x19_1 < (l0.length : Int) := of_decide_eq_true (by first | (with_reducible assumption) | assumption)
         obtain ⟨ad169, A169_0, c169_0, e169, hx169_0, hx169_1, hl169_0, hi169_0⟩ := at_T53 HR0.out x19_1 p169 q169
         cases e169
         replace hx169_0 := (HB.out.cell (World.block_lt_of_cell? w _ hx169_0)).trans hx169_0
         replace hx169_1 := (HB.out.cell (World.block_lt_of_cell? w _ hx169_1)).trans hx169_1
         have HR169_0 := Aside0.mk hi169_0
         have HC169_0 := Aside0.mk hl169_0
         clear hi169_0 hl169_0
         replace p169 := eq_true p169
         replace q169 := eq_true q169
         have M9 := Aside0.mk c9
         have M10 : Aside0 (x6_1.size + t171.size + 1 ≤ 140737488355328) := ⟨by have h_ := c10; simp only [ByteArray.size_append] at h_; exact h_⟩
         go_wp2_with (first | ((with_reducible refine gate_dst (N := 8) rfl ?_); refine sh_box 8 #[.slice none 0 0, .int .u32 0] 53 ?_; intro gb170 hg w11 hbox hb; have GE170 := sh_z (w := w) hg; replace HB := sh_b (w := w) hb; have BK170 := Aside0.mk (hbox); have HW8 := Aside0.mk hb; have HGE8 := Aside0.mk (Nat.le_of_eq hg.symm); clear hb hbox hg; have hcz12 := blk_all2 BK170.out) | ((with_reducible refine gate_callee (f := 31) rfl ?_); refine sh_call (some 24) Tryd.func31 #[.agg #[.slice A169_0 ((rd_T53 l0 x19_1).f0).length c169_0, .int .u32 ((rd_T53 l0 x19_1).f1)]] ?_; (with_reducible refine (rule_line.calls k1 _ _ ((rd_T53 l0 x19_1).f0) ((rd_T53 l0 x19_1).f1) t171 _ ?side1 ?side2 ?side3 A8.out).mono ?_); (case side1 => exact Kd.C_below HR169_0.out b_now); (case side2 => exact HC169_0.out); (case side3 => exact Kd.C_below HRG0.out b_now); rintro e w13 ⟨rfl, hb⟩; refine ⟨_, rfl, ?_⟩; replace BK170 := sh_kp (g := gb170) (t := 53) #[.slice A169_0 ((rd_T53 l0 x19_1).f0).length c169_0, .int .u32 ((rd_T53 l0 x19_1).f1)] hb; replace HB := sh_b (w := w) hb; have HI8 := Aside0.mk (ib_below (ib_below HI.out ((HW8.out.setCell (p := ⟨gb170, 0, none⟩) HGE8.out _).setCell (p := ⟨gb170, 1, none⟩) HGE8.out _)) hb); (try clear hb); (try clear hb2); (try clear hk); (try clear hi)) | ((with_reducible refine gate_callee (f := 30) rfl ?_); refine sh_call (some 25) Tryd.func30 #[.pointer (some ⟨gb6, 0, none⟩), .string t171] ?_; (with_reducible refine (Tryd.Builder_WriteString_k gb6 gb6 (Lib.strCells x6_1) t171 _ HI8.out (by rw [Lib.strCells_length]; exact M9.out) (ib_lt HI8.out)).mono ?_); rintro e w15 ⟨rfl, hbw, hbl, _⟩; refine ⟨_, rfl, ?_⟩; have HI9 := Aside0.mk (show Lib.IsBuilderF 76 5 gb6 gb6 (Lib.strCells x6_1 ++ Lib.strCells t171) w15 from Or.inr hbw); replace HB := Aside0.mk (HB.out.trans (hbl.mono GE6.out)); clear hbw hbl) | ((with_reducible refine gate_callee (f := 32) rfl ?_); refine sh_call (some 26) Tryd.func32 #[.pointer (some ⟨gb6, 0, none⟩), .int .u8 10] ?_; (with_reducible refine (Tryd.Builder_WriteByte_k gb6 gb6 (Lib.strCells x6_1 ++ Lib.strCells t171) 10 _ HI9.out (by rw [List.length_append, Lib.strCells_length, Lib.strCells_length]; exact M10.out) (ib_lt HI9.out)).mono ?_); rintro e w16 ⟨rfl, hbw, hbl, _⟩; refine ⟨_, rfl, ?_⟩; have HI10 := Aside0.mk (show Lib.IsBuilderF 76 5 gb6 gb6 ((Lib.strCells x6_1 ++ Lib.strCells t171) ++ [.int .u8 10]) w16 from Or.inr hbw); replace HB := Aside0.mk (HB.out.trans (hbl.mono GE6.out)); clear hbw hbl))
         go_roundg k1
         case measure => have := HK1.out; omega
         case rel => exact ⟨((x6_1 ++ t171) ++ (⟨#[10]⟩ : ByteArray)), (wrap64 (x19_1 + 1)), eq_now, H', ⟨by have := HK1.out; omega⟩, ⟨b_now⟩, ⟨ib_cat HI10.out⟩⟩
        ·rw [if_neg c10] at H
         exact absurd H (by simp)
       ·rw [if_neg c9] at H
        exact absurd H (by simp)
      ·rw [if_neg c7] at H
       exact absurd H (by simp)
     ·rw [if_neg c6] at H
      exact absurd H (by simp)
    ·rw [if_neg c5] at H
     have c5b0 : decide (x19_1 < (l0.length : Int)) = false := decide_eq_false c5
     clear c5
     simp only [Option.some.injEq, Prod.mk.injEq] at H
     obtain ⟨rfl, rfl⟩ := H
     have HIb := Aside0.mk (ib_bytes HI.out)
     go_wp2_with (first | ((with_reducible refine gate_callee (f := 33) rfl ?_); refine sh_call (some 28) Tryd.func33 #[.pointer (some ⟨gb6, 0, none⟩)] ?_; (with_reducible refine (Tryd.Builder_String_any_k gb6 gb6 x6_1.data.toList _ HIb.out (ib_lt HIb.out)).mono ?_); rintro e w18 ⟨he, _, hbl, _⟩; replace he : e = .returned (.string x6_1) := he; subst he; refine ⟨_, rfl, ?_⟩; replace HB := Aside0.mk (HB.out.trans (hbl.mono GE6.out)); clear hbl))
     go_ret2
     exact ⟨ret_now, b_now⟩
 ·rw [if_neg c3] at H
  have c3b0 : (t168 == 0) = false := beq_eq_false_iff_ne.mpr c3
  have c3b1 : (t168 != 0) = true := bne_iff_ne.mpr c3
  simp only [Option.some.injEq, Prod.mk.injEq] at H
  obtain ⟨rfl, rfl⟩ := H
  go_enter Tryd.func15, Tryd.ntmps15
  go_wp2_with (first | ((with_reducible refine gate_callee (f := 13) rfl ?_); refine sh_call (some 11) Tryd.func13 #[.slice A0 l0.length c0] ?_; (with_reducible refine (rule_Check.calls k _ _ l0 t167 t168 _ ?side1 ?side2 A2.out).mono ?_); (case side1 => repeat (first | exact HR0.out | (with_reducible refine Kd.C_alloc ?_ _) | (with_reducible refine Kd.C_drewN ?_ _) | (with_reducible refine Kd.C_drew ?_))); (case side2 => exact HC0.out); rintro e w14 ⟨rfl, hb⟩; refine ⟨_, rfl, ?_⟩; replace HB := sh_b (w := w) hb; (try clear hb); (try clear hb2); (try clear hk); (try clear hi)))
  go_ret2
  exact ⟨ret_now, b_now⟩

end Go.Proofs.YtighficpbplkhaaDoor.P
