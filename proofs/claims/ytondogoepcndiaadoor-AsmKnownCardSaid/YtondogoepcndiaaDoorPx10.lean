/- Made by this session's driver over the kit's printer: for each Go function a Lean function with the same answers, and a proof that the Go call comes to these answers; no conditions but the ones each theorem names. -/
import Derived.Test.YtondogoepcndiaaDoorPx0
import Derived.Test.YtondogoepcndiaaDoorBu
import Derived.Test.YtondogoepcndiaaDoorPx1
import Derived.Test.YtondogoepcndiaaDoorPx6
import Derived.Test.YtondogoepcndiaaDoorPx9
namespace Go.Proofs.YtondogoepcndiaaDoor.P
open Go.RowKit Go.Proofs.YtondogoepcndiaaDoorW.PrintWords Go.Proofs.YtondogoepcndiaaDoorW.PrintLast Go.Proofs.YtondogoepcndiaaDoorW.PrintMore
attribute [local go_sem] max2_int min2_int max_two min_two max_three min_three max_four min_four   -- for this text's walks alone
set_option linter.unusedVariables false
set_option linter.unusedSimpArgs false

attribute [local go_sem high] eqA37
-- NOT PRINTED: function 17 (strings_Builder_WriteByte)

-- NOT PRINTED: function 18 (strings_Builder_String)

/-! ### asm_Print: function 9 -/
mutual
def asm_Print.l0 : Nat → List (S37) → ByteArray → Int → Option (ByteArray × Int)
 | 0, _, _, _ => none
 | k + 1, x0, x4, x5 => if x5 < (x0.length : Int) then (if 0 ≤ x5 then ((insn_Of.f k ((rd_T37 x0 x5).f0) ((rd_T37 x0 x5).f1) ((rd_T37 x0 x5).f2) ((rd_T37 x0 x5).f3) ((rd_T37 x0 x5).f4)).bind fun bt167 => (if bt167.2.2.2.2.2 = 0 then (if bt167.1 = 10 then (asm_Print.j1 k x0 x4 x5 0 true ((rd_T37 x0 x5).f0) ((rd_T37 x0 x5).f1) ((rd_T37 x0 x5).f2) ((rd_T37 x0 x5).f3) ((rd_T37 x0 x5).f4) bt167.1 bt167.2.1 bt167.2.2.1 bt167.2.2.2.1 bt167.2.2.2.2.1) else (asm_Print.j1 k x0 x4 x5 0 (bt167.1 == 11) ((rd_T37 x0 x5).f0) ((rd_T37 x0 x5).f1) ((rd_T37 x0 x5).f2) ((rd_T37 x0 x5).f3) ((rd_T37 x0 x5).f4) bt167.1 bt167.2.1 bt167.2.2.1 bt167.2.2.2.1 bt167.2.2.2.2.1)) else (some ((⟨#[]⟩ : ByteArray), bt167.2.2.2.2.2)))) else (none)) else (some (x4, 0))
def asm_Print.j1 : Nat → List (S37) → ByteArray → Int → Int → Bool → Int → Int → Int → Int → Int → Int → Int → Int → Bool → Bool → Option (ByteArray × Int)
 | 0, _, _, _, _, _, _, _, _, _, _, _, _, _, _, _ => none
 | k + 1, x0, x4, x5, x9, x39, x167000, x167001, x167002, x167003, x167004, x174000, x174001, x174002, x174003, x174004 => if x39 = true then (if (wrap64 (x5 + 1)) = (x0.length : Int) then (some ((⟨#[]⟩ : ByteArray), 23)) else (if 0 ≤ (wrap64 (x5 + 1)) then (if (wrap64 (x5 + 1)) < (x0.length : Int) then (if (!(((rd_T37 x0 (wrap64 (x5 + 1))).f0) == 0) || (!(((rd_T37 x0 (wrap64 (x5 + 1))).f1) == 0) || (!(((rd_T37 x0 (wrap64 (x5 + 1))).f2) == 0) || (!(((rd_T37 x0 (wrap64 (x5 + 1))).f3) == 0))))) = true then (some ((⟨#[]⟩ : ByteArray), 23)) else (if x174000 = 11 then (if ((rd_T37 x0 (wrap64 (x5 + 1))).f4) = 0 then ((asm_line.f k x174000 x174001 x174002 x174003 x174004 x167000 x167001 x167002 x167003 x167004 ((rd_T37 x0 (wrap64 (x5 + 1))).f4)).bind fun t176 => (if x4.size + t176.size ≤ 140737488355328 then (if (x4 ++ t176).size + 1 ≤ 140737488355328 then (asm_Print.l0 k x0 ((x4 ++ t176) ++ (⟨#[10]⟩ : ByteArray)) (wrap64 ((wrap64 (x5 + 1)) + 1))) else (none)) else (none))) else (some ((⟨#[]⟩ : ByteArray), 23))) else ((asm_line.f k x174000 x174001 x174002 x174003 x174004 x167000 x167001 x167002 x167003 x167004 ((rd_T37 x0 (wrap64 (x5 + 1))).f4)).bind fun t177 => (if x4.size + t177.size ≤ 140737488355328 then (if (x4 ++ t177).size + 1 ≤ 140737488355328 then (asm_Print.l0 k x0 ((x4 ++ t177) ++ (⟨#[10]⟩ : ByteArray)) (wrap64 ((wrap64 (x5 + 1)) + 1))) else (none)) else (none))))) else (none)) else (none))) else ((asm_line.f k x174000 x174001 x174002 x174003 x174004 x167000 x167001 x167002 x167003 x167004 x9).bind fun t178 => (if x4.size + t178.size ≤ 140737488355328 then (if (x4 ++ t178).size + 1 ≤ 140737488355328 then (asm_Print.l0 k x0 ((x4 ++ t178) ++ (⟨#[10]⟩ : ByteArray)) (wrap64 (x5 + 1))) else (none)) else (none)))
end
def asm_Print.f (k : Nat) (l0 : List (S37)) : Option (ByteArray × Int) := if (l0.length : Int) > 512 then (some ((⟨#[]⟩ : ByteArray), 3)) else (asm_Print.l0 k l0 (⟨#[]⟩ : ByteArray) 0)
theorem asm_Print.mono_l : ∀ k, (∀ y0 y1 y2, LeO (asm_Print.l0 k y0 y1 y2) (asm_Print.l0 (k + 1) y0 y1 y2)) ∧ (∀ y0 y1 y2 y3 y4 y5 y6 y7 y8 y9 y10 y11 y12 y13 y14, LeO (asm_Print.j1 k y0 y1 y2 y3 y4 y5 y6 y7 y8 y9 y10 y11 y12 y13 y14) (asm_Print.j1 (k + 1) y0 y1 y2 y3 y4 y5 y6 y7 y8 y9 y10 y11 y12 y13 y14))
 | 0 => ⟨fun _ _ _ r h => by simp [asm_Print.l0] at h, fun _ _ _ _ _ _ _ _ _ _ _ _ _ _ _ r h => by simp [asm_Print.j1] at h⟩
 | k + 1 => by
  obtain ⟨ih0, ih1⟩ := asm_Print.mono_l k
  refine ⟨?_, ?_⟩
  ·intro y0 y1 y2
   unfold asm_Print.l0
   repeat' first
   | (with_reducible exact ih0 _ _ _)
   | (with_reducible exact ih1 _ _ _ _ _ _ _ _ _ _ _ _ _ _ _)
   | (with_reducible exact asm_line.mono _ _ _ _ _ _ _ _ _ _ _ _)
   | (with_reducible exact insn_Of.mono _ _ _ _ _ _)
   | (with_reducible exact LeO.refl _)
   | (with_reducible exact LeO.none _)
   | (with_reducible refine LeO.ite ?_ ?_)
   | (with_reducible refine LeO.bind ?_ (fun _ => ?_))
   | refine LeO.ite ?_ ?_
   | refine LeO.bind ?_ (fun _ => ?_)
  ·intro y0 y1 y2 y3 y4 y5 y6 y7 y8 y9 y10 y11 y12 y13 y14
   unfold asm_Print.j1
   repeat' first
   | (with_reducible exact ih0 _ _ _)
   | (with_reducible exact ih1 _ _ _ _ _ _ _ _ _ _ _ _ _ _ _)
   | (with_reducible exact asm_line.mono _ _ _ _ _ _ _ _ _ _ _ _)
   | (with_reducible exact insn_Of.mono _ _ _ _ _ _)
   | (with_reducible exact LeO.refl _)
   | (with_reducible exact LeO.none _)
   | (with_reducible refine LeO.ite ?_ ?_)
   | (with_reducible refine LeO.bind ?_ (fun _ => ?_))
   | refine LeO.ite ?_ ?_
   | refine LeO.bind ?_ (fun _ => ?_)
theorem asm_Print.mono : ∀ a0 k, LeO (asm_Print.f k a0) (asm_Print.f (k + 1) a0) := by
 intro a0 k
 obtain ⟨ih0, ih1⟩ := asm_Print.mono_l k
 unfold asm_Print.f
 repeat' first
   | (with_reducible exact ih0 _ _ _)
   | (with_reducible exact ih1 _ _ _ _ _ _ _ _ _ _ _ _ _ _ _)
   | (with_reducible exact asm_line.mono _ _ _ _ _ _ _ _ _ _ _ _)
   | (with_reducible exact insn_Of.mono _ _ _ _ _ _)
   | (with_reducible exact LeO.refl _)
   | (with_reducible exact LeO.none _)
   | (with_reducible refine LeO.ite ?_ ?_)
   | (with_reducible refine LeO.bind ?_ (fun _ => ?_))
   | refine LeO.ite ?_ ?_
   | refine LeO.bind ?_ (fun _ => ?_)
set_option maxHeartbeats 8000000 in
set_option maxRecDepth 100000 in
theorem asm_Print.calls (k : Nat) (A0 : Option Addr) (c0 : Nat) (l0 : List (S37)) (r1 : ByteArray) (r2 : Int) (w : World) (hr0 : Kd.C k37 w A0 l0.length l0) (hc0 : l0.length ≤ c0) (hrG0 : Kd.C Kd.string w (some ⟨0, 0, none⟩) gl0.length gl0) (hrG1 : Kd.C Kd.string w (some ⟨1, 0, none⟩) gl1.length gl1) (hrG2 : Kd.C (Kd.int .i64) w (some ⟨2, 0, none⟩) gl2.length gl2) (hrG3 : Kd.C kGF w (some ⟨3, 0, none⟩) gl3.length gl3) (h : asm_Print.f k l0 = some (r1, r2)) :
  Calls Tryd.prog 9 #[.slice A0 l0.length c0] w fun e w' => e = .returned (.tuple #[.string r1, .int .i64 r2]) ∧ Below w.heap.size w w' := by
 have hu37 := Tryd.underlying37
 have hu49 := Tryd.underlying49
 have HR0 := Aside0.mk hr0
 have HC0 := Aside0.mk hc0
 clear hr0 hc0
 have HRG0 := Aside0.mk hrG0
 clear hrG0
 have HRG1 := Aside0.mk hrG1
 clear hrG1
 have HRG2 := Aside0.mk hrG2
 clear hrG2
 have HRG3 := Aside0.mk hrG3
 clear hrG3
 have HB := Aside0.mk (Below.refl w.heap.size w)
 have H : (if (l0.length : Int) > 512 then (some ((⟨#[]⟩ : ByteArray), 3)) else (asm_Print.l0 k l0 (⟨#[]⟩ : ByteArray) 0)) = some (r1, r2) := h
 clear h
 by_cases c2 : (l0.length : Int) > 512
 ·rw [if_pos c2] at H
  have c2b0 : decide (512 < (l0.length : Int)) = true := decide_eq_true c2
  have c2b1 : decide (512 < l0.length) = true := decide_eq_true (by omega)
  clear c2
  obtain ⟨rfl, rfl⟩ := pi2 H
  go_enter Tryd.func9, Tryd.ntmps9
  go_wp2
  go_ret2
  exact ⟨ret_now, b_now⟩
 ·rw [if_neg c2] at H
  have c2b0 : decide (512 < (l0.length : Int)) = false := decide_eq_false c2
  have c2b1 : decide (512 < l0.length) = false := decide_eq_false (by omega)
  clear c2
  have H' := Aside0.mk H
  clear H
  go_enter Tryd.func9, Tryd.ntmps9
  go_wp2_with (first | ((with_reducible refine gate_dst (N := 4) rfl ?_); refine sh_box 4 #[.pointer none, .slice none 0 0] 47 ?_; intro gb4 hg w5 hbox hb; have GE4 := sh_z (w := w) hg; replace HB := sh_b (w := w) hb; have HI4 := Aside0.mk (ib_fresh (e := 5) hbox); clear hb hbox hg))
  go_loopg [5] k (fun kq v5 w' => ∃ (x4_1 : ByteArray) (x5_1 : Int), v5 = .int .i64 x5_1 ∧ Aside0 (asm_Print.l0 kq l0 x4_1 x5_1 = some (r1, r2)) ∧ Aside0 (kq ≤ k) ∧ Aside0 (Below w.heap.size w w') ∧ Aside0 (Lib.IsBuilderF 47 5 gb4 gb4 (Lib.strCells x4_1) w'))
  case atStart => exact ⟨((⟨#[]⟩ : ByteArray)), (0), eq_now, H', ⟨Nat.le_refl _⟩, ⟨b_now⟩, HI4⟩
  case round =>
   clear H'
   clear c2b0 c2b1
   obtain ⟨x4_1, x5_1, rfl, HA, HK1, HB, HI⟩ := hrel
   obtain ⟨ws, HI, HW⟩ := hi_start HI
   cases gk with
   | zero => exact absurd HA.out (by simp [asm_Print.l0])
   | succ k1 =>
    have H := HA.out
    clear HA
    simp only [asm_Print.l0] at H
    by_cases c3 : x5_1 < (l0.length : Int)
    ·rw [if_pos c3] at H
     have c3b0 : decide (x5_1 < (l0.length : Int)) = true := decide_eq_true c3
     clear c3
     by_cases c4 : 0 ≤ x5_1
     ·rw [if_pos c4] at H
      have c4b0 : decide (0 ≤ x5_1) = true := decide_eq_true c4
      clear c4
      obtain ⟨⟨t167, t168, t169, t170, t171, t172⟩, A5, H⟩ := bs_ H; try dsimp only at H
      by_cases c6 : t172 = 0
      ·rw [if_pos c6] at H
       obtain ⟨c6b0, c6b1⟩ := eqT c6
       clear c6
       have HC7 := Aside0.mk H
       clear H
       have p165 : 0 ≤ (x5_1 : Int) := od_
       have q165 : x5_1 < (l0.length : Int) := od_
       obtain ⟨ad165, e165, hx165_0, hx165_1, hx165_2, hx165_3, hx165_4⟩ := at_T37 HR0.out x5_1 p165 q165
       cases e165
       replace hx165_0 := (HB.out.cell (World.block_lt_of_cell? w _ hx165_0)).trans hx165_0
       replace hx165_1 := (HB.out.cell (World.block_lt_of_cell? w _ hx165_1)).trans hx165_1
       replace hx165_2 := (HB.out.cell (World.block_lt_of_cell? w _ hx165_2)).trans hx165_2
       replace hx165_3 := (HB.out.cell (World.block_lt_of_cell? w _ hx165_3)).trans hx165_3
       replace hx165_4 := (HB.out.cell (World.block_lt_of_cell? w _ hx165_4)).trans hx165_4
       replace p165 := eq_true p165
       replace q165 := eq_true q165
       go_upto_region 12 with (first | ((with_reducible refine gate_dst (N := 6) rfl ?_); refine sh_box 6 #[.int .u8 0, .int .u8 0, .int .u8 0, .int .i16 0, .int .i32 0] 37 ?_; intro gb166 hg w8 hbox hb; have GE166 := sh_z (w := w) hg; have GW166 := sh_z (w := ws) hg; replace HB := sh_b (w := w) hb; replace HW := sh_b (w := ws) hb; have BK166 := Aside0.mk (hbox); clear hb hbox hg; have hcz9 := blk_all5 BK166.out) | ((with_reducible refine gate_callee (f := 14) rfl ?_); refine sh_call (some 26) Tryd.func14 #[.agg #[.int .u8 ((rd_T37 l0 x5_1).f0), .int .u8 ((rd_T37 l0 x5_1).f1), .int .u8 ((rd_T37 l0 x5_1).f2), .int .i16 ((rd_T37 l0 x5_1).f3), .int .i32 ((rd_T37 l0 x5_1).f4)]] ?_; (with_reducible refine (insn_Of.calls k1 ((rd_T37 l0 x5_1).f0) ((rd_T37 l0 x5_1).f1) ((rd_T37 l0 x5_1).f2) ((rd_T37 l0 x5_1).f3) ((rd_T37 l0 x5_1).f4) t167 t168 t169 t170 t171 t172 _ ?side1 A5.out).mono ?_); (case side1 => exact Kd.C_below HRG2.out b_now); rintro e w10 ⟨rfl, hb⟩; refine ⟨_, rfl, ?_⟩; replace BK166 := sh_kp (g := gb166) (t := 37) #[.int .u8 ((rd_T37 l0 x5_1).f0), .int .u8 ((rd_T37 l0 x5_1).f1), .int .u8 ((rd_T37 l0 x5_1).f2), .int .i16 ((rd_T37 l0 x5_1).f3), .int .i32 ((rd_T37 l0 x5_1).f4)] hb; replace HB := sh_b (w := w) hb; replace HW := sh_b (w := ws) hb; (try clear hb); (try clear hb2); (try clear hk); (try clear hi)) | ((with_reducible refine gate_dst (N := 7) rfl ?_); refine sh_box 7 #[.int .i64 0, .int .i64 0, .int .i64 0, .bool false, .bool false] 49 ?_; intro gb173 hg w11 hbox hb; have GE173 := sh_z (w := w) hg; have GW173 := sh_z (w := ws) hg; have NB166_173 := sh_n BK166 hg; have NB173_166 := sh_s NB166_173; replace BK166 := sh_k BK166 hb; replace HB := sh_b (w := w) hb; replace HW := sh_b (w := ws) hb; have BK173 := Aside0.mk (hbox); clear hb hbox hg; obtain ⟨hnb12, hnc12⟩ := nb_ NB173_166; have hcz13 := blk_all5 BK173.out))
       (try simp only [Act.put, List.setIfInBounds_toArray, List.set_cons_zero, List.set_cons_succ])
       go_cut [39] (fun v39 wc => ∃ (kq : Nat) (x39_6 : Bool), v39 = .bool x39_6 ∧ Aside0 (asm_Print.j1 kq l0 x4_1 x5_1 0 x39_6 ((rd_T37 l0 x5_1).f0) ((rd_T37 l0 x5_1).f1) ((rd_T37 l0 x5_1).f2) ((rd_T37 l0 x5_1).f3) ((rd_T37 l0 x5_1).f4) t167 t168 t169 t170 t171 = some (r1, r2)) ∧ Aside0 (kq ≤ k1) ∧ Aside0 (wc.heap[gb166]? = some (.cells #[.int .u8 ((rd_T37 l0 x5_1).f0), .int .u8 ((rd_T37 l0 x5_1).f1), .int .u8 ((rd_T37 l0 x5_1).f2), .int .i16 ((rd_T37 l0 x5_1).f3), .int .i32 ((rd_T37 l0 x5_1).f4)] 37 (0, 0))) ∧ Aside0 (wc.heap[gb173]? = some (.cells #[.int .i64 t167, .int .i64 t168, .int .i64 t169, .bool t170, .bool t171] 49 (0, 0))) ∧ Aside0 (Below w.heap.size w wc) ∧ Aside0 (Lib.IsBuilderF 47 5 gb4 gb4 (Lib.strCells x4_1) wc))
       case first =>
        have H := HC7.out
        clear HC7
        by_cases c14 : t167 = 10
        ·rw [if_pos c14] at H
         obtain ⟨c14b0, c14b1⟩ := eqT c14
         clear c14
         (first | rw [c14b0] | (simp only [i64_w, i32_w]; rw [c14b0]) | skip)
         have H' := Aside0.mk H
         clear H
         obtain ⟨hnb15, hnc15⟩ := nb_ NB173_166
         have hcz16 := blk_all5 BK173.out
         go_wp2
         go_meet
         case rel => exact ⟨_, (true), eq_now, H', ⟨by have := HK1.out; first | omega | exact Nat.le_refl _⟩, ⟨bk_now⟩, ⟨bk_now⟩, ⟨b_now⟩, ⟨ib_below (W := ws) HI.out b_now⟩⟩
        ·rw [if_neg c14] at H
         obtain ⟨c14b0, c14b1⟩ := eqF c14
         (first | rw [c14b0] | (simp only [i64_w, i32_w]; rw [c14b0]) | skip)
         have H' := Aside0.mk H
         clear H
         obtain ⟨hnb17, hnc17⟩ := nb_ NB173_166
         have hcz18 := blk_all5 BK173.out
         go_wp2
         go_meet
         case rel => exact ⟨_, ((t167 == 11)), eq_now, H', ⟨by have := HK1.out; first | omega | exact Nat.le_refl _⟩, ⟨bk_now⟩, ⟨bk_now⟩, ⟨b_now⟩, ⟨ib_below (W := ws) HI.out b_now⟩⟩
       case rest =>
        clear HC7
        clear c3b0 c4b0 c6b0 c6b1 hcz13 hcz9 hx165_0 hx165_1 hx165_2 hx165_3 hx165_4 p165 q165
        clear HI HW
        try clear GW166 GW173
        obtain ⟨kq, x39_6, rfl, HA, HJ6, BK166, BK173, HB, HI⟩ := hcut
        obtain ⟨ws, HI, HW⟩ := hi_start HI
        cases kq with
        | zero => exact absurd HA.out (by simp [asm_Print.j1])
        | succ kj6 =>
         have H := HA.out
         clear HA
         simp only [asm_Print.j1] at H
         by_cases c19 : x39_6 = true
         ·subst c19
          replace H := sh_t H
          by_cases c20 : (wrap64 (x5_1 + 1)) = (l0.length : Int)
          ·rw [if_pos c20] at H
           obtain ⟨c20b0, c20b1⟩ := eqT c20
           clear c20
           obtain ⟨rfl, rfl⟩ := pi2 H
           go_wp2
           go_ret2
           exact ⟨ret_now, b_now⟩
          ·rw [if_neg c20] at H
           obtain ⟨c20b0, c20b1⟩ := eqF c20
           obtain ⟨ji21, hji21⟩ : ∃ j_ : Int, (wrap64 (x5_1 + 1)) = j_ := ⟨_, rfl⟩
           replace H : (if 0 ≤ (ji21) then (if (ji21) < (l0.length : Int) then (if (!(((rd_T37 l0 (ji21)).f0) == 0) || (!(((rd_T37 l0 (ji21)).f1) == 0) || (!(((rd_T37 l0 (ji21)).f2) == 0) || (!(((rd_T37 l0 (ji21)).f3) == 0))))) = true then (some ((⟨#[]⟩ : ByteArray), 23)) else (if t167 = 11 then (if ((rd_T37 l0 (ji21)).f4) = 0 then ((asm_line.f kj6 t167 t168 t169 t170 t171 ((rd_T37 l0 x5_1).f0) ((rd_T37 l0 x5_1).f1) ((rd_T37 l0 x5_1).f2) ((rd_T37 l0 x5_1).f3) ((rd_T37 l0 x5_1).f4) ((rd_T37 l0 (ji21)).f4)).bind fun t176 => (if x4_1.size + t176.size ≤ 140737488355328 then (if (x4_1 ++ t176).size + 1 ≤ 140737488355328 then (asm_Print.l0 kj6 l0 ((x4_1 ++ t176) ++ (⟨#[10]⟩ : ByteArray)) (wrap64 ((ji21) + 1))) else (none)) else (none))) else (some ((⟨#[]⟩ : ByteArray), 23))) else ((asm_line.f kj6 t167 t168 t169 t170 t171 ((rd_T37 l0 x5_1).f0) ((rd_T37 l0 x5_1).f1) ((rd_T37 l0 x5_1).f2) ((rd_T37 l0 x5_1).f3) ((rd_T37 l0 x5_1).f4) ((rd_T37 l0 (ji21)).f4)).bind fun t177 => (if x4_1.size + t177.size ≤ 140737488355328 then (if (x4_1 ++ t177).size + 1 ≤ 140737488355328 then (asm_Print.l0 kj6 l0 ((x4_1 ++ t177) ++ (⟨#[10]⟩ : ByteArray)) (wrap64 ((ji21) + 1))) else (none)) else (none))))) else (none)) else (none)) = some (r1, r2) := by first | (rw [hji21] at H; exact H) | (simp only [hji21] at H ⊢; exact H)
           (try rw [hji21] at c20b0)
           (try rw [hji21] at c20b1)
           have hji21w : (IntKind.i64.wrap (x5_1 + 1)) = ji21 := (i64_w _).trans hji21
           by_cases c22 : 0 ≤ (ji21)
           ·rw [if_pos c22] at H
            have c22b0 : decide (0 ≤ (ji21)) = true := decide_eq_true c22
            clear c22
            by_cases c23 : (ji21) < (l0.length : Int)
            ·rw [if_pos c23] at H
             have c23b0 : decide ((ji21) < (l0.length : Int)) = true := decide_eq_true c23
             clear c23
             by_cases c24 : (!(((rd_T37 l0 (ji21)).f0) == 0) || (!(((rd_T37 l0 (ji21)).f1) == 0) || (!(((rd_T37 l0 (ji21)).f2) == 0) || (!(((rd_T37 l0 (ji21)).f3) == 0))))) = true
             ·rw [if_pos c24] at H
              have c24b0 : (!(((rd_T37 l0 (ji21)).f0) == 0) || (!(((rd_T37 l0 (ji21)).f1) == 0) || (!(((rd_T37 l0 (ji21)).f2) == 0) || (!(((rd_T37 l0 (ji21)).f3) == 0))))) = true := c24
              clear c24
              obtain ⟨rfl, rfl⟩ := pi2 H
              have p174 : 0 ≤ ((ji21) : Int) := od_
              have q174 : (ji21) < (l0.length : Int) := od_
              obtain ⟨ad174, e174, hx174_0, hx174_1, hx174_2, hx174_3, hx174_4⟩ := at_T37 HR0.out (ji21) p174 q174
              obtain rfl : ad165 = ad174 := (by injection e174)
              replace hx174_0 := (HB.out.cell (World.block_lt_of_cell? w _ hx174_0)).trans hx174_0
              replace hx174_1 := (HB.out.cell (World.block_lt_of_cell? w _ hx174_1)).trans hx174_1
              replace hx174_2 := (HB.out.cell (World.block_lt_of_cell? w _ hx174_2)).trans hx174_2
              replace hx174_3 := (HB.out.cell (World.block_lt_of_cell? w _ hx174_3)).trans hx174_3
              replace hx174_4 := (HB.out.cell (World.block_lt_of_cell? w _ hx174_4)).trans hx174_4
              replace p174 := eq_true p174
              replace q174 := eq_true q174
              go_upto_region 19 with (first | ((with_reducible refine gate_dst (N := 10) rfl ?_); refine sh_box 10 #[.int .u8 0, .int .u8 0, .int .u8 0, .int .i16 0, .int .i32 0] 37 ?_; intro gb175 hg w25 hbox hb; have GE175 := sh_z (w := w) hg; have GW175 := sh_z (w := ws) hg; have NB166_175 := sh_n BK166 hg; have NB173_175 := sh_n BK173 hg; have NB175_166 := sh_s NB166_175; have NB175_173 := sh_s NB173_175; replace BK166 := sh_k BK166 hb; replace BK173 := sh_k BK173 hb; replace HB := sh_b (w := w) hb; replace HW := sh_b (w := ws) hb; have BK175 := Aside0.mk (hbox); clear hb hbox hg; obtain ⟨hnb26, hnc26⟩ := nb_ NB175_166; obtain ⟨hnb27, hnc27⟩ := nb_ NB175_173; have hcz28 := blk_all5 BK175.out))
              refine name_any (fun W => W.heap[gb175]? = some (.cells #[.int .u8 ((rd_T37 l0 (ji21)).f0), .int .u8 ((rd_T37 l0 (ji21)).f1), .int .u8 ((rd_T37 l0 (ji21)).f2), .int .i16 ((rd_T37 l0 (ji21)).f3), .int .i32 0] 37 (0, 0)) ∧ W.heap[gb166]? = some (.cells #[.int .u8 ((rd_T37 l0 x5_1).f0), .int .u8 ((rd_T37 l0 x5_1).f1), .int .u8 ((rd_T37 l0 x5_1).f2), .int .i16 ((rd_T37 l0 x5_1).f3), .int .i32 ((rd_T37 l0 x5_1).f4)] 37 (0, 0)) ∧ W.heap[gb173]? = some (.cells #[.int .i64 t167, .int .i64 t168, .int .i64 t169, .bool t170, .bool t171] 49 (0, 0)) ∧ Below w.heap.size w W ∧ Below ws.heap.size ws W) ⟨bk_now, bk_now, bk_now, b_now, b_now⟩ ?_
              clear BK166 BK173 BK175 HB HW
              rintro wz ⟨k_0, k_1, k_2, k_3, k_4⟩
              have BK175 := Aside0.mk k_0
              have BK166 := Aside0.mk k_1
              have BK173 := Aside0.mk k_2
              have HB := Aside0.mk k_3
              have HW := Aside0.mk k_4
              clear k_0 k_1 k_2 k_3 k_4
              have hcy1 := blk_all5 BK175.out
              have hcy2 := blk_all5 BK173.out
              have hcy3 := blk_all5 BK166.out
              go_wp2
              go_ret2
              exact ⟨by first | rfl | (simp [errW_none, errW_some] <;> rfl) | (simp only [← hji21]; first | rfl | (simp [errW_none, errW_some] <;> rfl)) | (simp [*, errW_none, errW_some] <;> rfl), b_now⟩
             ·rw [if_neg c24] at H
              have c24b0 : (!(((rd_T37 l0 (ji21)).f0) == 0) || (!(((rd_T37 l0 (ji21)).f1) == 0) || (!(((rd_T37 l0 (ji21)).f2) == 0) || (!(((rd_T37 l0 (ji21)).f3) == 0))))) = false := by simpa using c24
              clear c24
              by_cases c29 : t167 = 11
              ·rw [if_pos c29] at H
               obtain ⟨c29b0, c29b1⟩ := eqT c29
               clear c29
               by_cases c30 : ((rd_T37 l0 (ji21)).f4) = 0
               ·rw [if_pos c30] at H
                obtain ⟨c30b0, c30b1⟩ := eqT c30
                clear c30
                obtain ⟨t176, A31, H⟩ := bs_ H; try dsimp only at H
                by_cases c32 : x4_1.size + t176.size ≤ 140737488355328
                ·rw [if_pos c32] at H
                 have c32b0 := eq_true c32
                 have c32b1 : decide (x4_1.size + t176.size ≤ 140737488355328) = true := decide_eq_true c32
                 try have c32b2 : (140737488355328 < x4_1.size + t176.size) = False := eq_false (Nat.not_lt.2 c32)
                 by_cases c33 : (x4_1 ++ t176).size + 1 ≤ 140737488355328
                 ·rw [if_pos c33] at H
                  have c33b0 := eq_true c33
                  have c33b1 : decide ((x4_1 ++ t176).size + 1 ≤ 140737488355328) = true := decide_eq_true c33
                  try have c33b2 : (140737488355328 < (x4_1 ++ t176).size + 1) = False := eq_false (Nat.not_lt.2 c33)
                  have H' := Aside0.mk H
                  clear H
                  have p174 : 0 ≤ ((ji21) : Int) := od_
                  have q174 : (ji21) < (l0.length : Int) := od_
                  obtain ⟨ad174, e174, hx174_0, hx174_1, hx174_2, hx174_3, hx174_4⟩ := at_T37 HR0.out (ji21) p174 q174
                  obtain rfl : ad165 = ad174 := (by injection e174)
                  replace hx174_0 := (HB.out.cell (World.block_lt_of_cell? w _ hx174_0)).trans hx174_0
                  replace hx174_1 := (HB.out.cell (World.block_lt_of_cell? w _ hx174_1)).trans hx174_1
                  replace hx174_2 := (HB.out.cell (World.block_lt_of_cell? w _ hx174_2)).trans hx174_2
                  replace hx174_3 := (HB.out.cell (World.block_lt_of_cell? w _ hx174_3)).trans hx174_3
                  replace hx174_4 := (HB.out.cell (World.block_lt_of_cell? w _ hx174_4)).trans hx174_4
                  replace p174 := eq_true p174
                  replace q174 := eq_true q174
                  have M9 : Aside0 (x4_1.size + t176.size ≤ 140737488355328) := ⟨by assumption⟩
                  have M10 : Aside0 (x4_1.size + t176.size + 1 ≤ 140737488355328) := ⟨by have h_ : (x4_1 ++ t176).size + 1 ≤ 140737488355328 := (by assumption); simp only [ByteArray.size_append] at h_; exact h_⟩
                  go_upto_region 19 with (first | ((with_reducible refine gate_dst (N := 10) rfl ?_); refine sh_box 10 #[.int .u8 0, .int .u8 0, .int .u8 0, .int .i16 0, .int .i32 0] 37 ?_; intro gb175 hg w34 hbox hb; have GE175 := sh_z (w := w) hg; have GW175 := sh_z (w := ws) hg; have NB166_175 := sh_n BK166 hg; have NB173_175 := sh_n BK173 hg; have NB175_166 := sh_s NB166_175; have NB175_173 := sh_s NB173_175; replace BK166 := sh_k BK166 hb; replace BK173 := sh_k BK173 hb; replace HB := sh_b (w := w) hb; replace HW := sh_b (w := ws) hb; have BK175 := Aside0.mk (hbox); clear hb hbox hg; obtain ⟨hnb35, hnc35⟩ := nb_ NB175_166; obtain ⟨hnb36, hnc36⟩ := nb_ NB175_173; have hcz37 := blk_all5 BK175.out; obtain ⟨hnb38, hnc38⟩ := nb_ NB173_166; have hcz39 := blk_all5 BK173.out; have hcz40 := blk_all5 BK166.out))
                  refine name_any (fun W => W.heap[gb175]? = some (.cells #[.int .u8 ((rd_T37 l0 (ji21)).f0), .int .u8 ((rd_T37 l0 (ji21)).f1), .int .u8 ((rd_T37 l0 (ji21)).f2), .int .i16 ((rd_T37 l0 (ji21)).f3), .int .i32 0] 37 (0, 0)) ∧ W.heap[gb166]? = some (.cells #[.int .u8 ((rd_T37 l0 x5_1).f0), .int .u8 ((rd_T37 l0 x5_1).f1), .int .u8 ((rd_T37 l0 x5_1).f2), .int .i16 ((rd_T37 l0 x5_1).f3), .int .i32 ((rd_T37 l0 x5_1).f4)] 37 (0, 0)) ∧ W.heap[gb173]? = some (.cells #[.int .i64 t167, .int .i64 t168, .int .i64 t169, .bool t170, .bool t171] 49 (0, 0)) ∧ Below w.heap.size w W ∧ Below ws.heap.size ws W) ⟨bk_now, bk_now, bk_now, b_now, b_now⟩ ?_
                  clear BK166 BK173 BK175 HB HW
                  rintro wz ⟨k_0, k_1, k_2, k_3, k_4⟩
                  have BK175 := Aside0.mk k_0
                  have BK166 := Aside0.mk k_1
                  have BK173 := Aside0.mk k_2
                  have HB := Aside0.mk k_3
                  have HW := Aside0.mk k_4
                  clear k_0 k_1 k_2 k_3 k_4
                  have hcy1 := blk_all5 BK175.out
                  have hcy2 := blk_all5 BK173.out
                  have hcy3 := blk_all5 BK166.out
                  go_wp2_with (first | ((with_reducible refine gate_callee (f := 16) rfl ?_); refine goesL_ (some 68) rfl rfl Tryd.func16 (by kernel_rfl) rfl #[.agg #[.int .i64 t167, .int .i64 t168, .int .i64 t169, .bool t170, .bool t171], .agg #[.int .u8 ((rd_T37 l0 x5_1).f0), .int .u8 ((rd_T37 l0 x5_1).f1), .int .u8 ((rd_T37 l0 x5_1).f2), .int .i16 ((rd_T37 l0 x5_1).f3), .int .i32 ((rd_T37 l0 x5_1).f4)], .int .i32 ((rd_T37 l0 (ji21)).f4)] rfl (by (try simp only [List.map_toArray, List.map_cons, List.map_nil]); first | done | (simp only [hji21]; rfl) | rfl | (simp only [List.length_drop, List.length_take]; rfl)) ?_; (with_reducible refine (asm_line.calls kj6 t167 t168 t169 t170 t171 ((rd_T37 l0 x5_1).f0) ((rd_T37 l0 x5_1).f1) ((rd_T37 l0 x5_1).f2) ((rd_T37 l0 x5_1).f3) ((rd_T37 l0 x5_1).f4) ((rd_T37 l0 (ji21)).f4) t176 _ ?side1 ?side2 ?side3 A31.out).mono ?_); (case side1 => exact Kd.C_below HRG0.out b_now); (case side2 => exact Kd.C_below HRG1.out b_now); (case side3 => exact Kd.C_below HRG3.out b_now); rintro e w41 ⟨rfl, hb⟩; refine ⟨_, rfl, ?_⟩; replace BK166 := sh_kp (g := gb166) (t := 37) #[.int .u8 ((rd_T37 l0 x5_1).f0), .int .u8 ((rd_T37 l0 x5_1).f1), .int .u8 ((rd_T37 l0 x5_1).f2), .int .i16 ((rd_T37 l0 x5_1).f3), .int .i32 ((rd_T37 l0 x5_1).f4)] hb; replace BK173 := sh_kp (g := gb173) (t := 49) #[.int .i64 t167, .int .i64 t168, .int .i64 t169, .bool t170, .bool t171] hb; replace BK175 := sh_kp (g := gb175) (t := 37) #[.int .u8 ((rd_T37 l0 (ji21)).f0), .int .u8 ((rd_T37 l0 (ji21)).f1), .int .u8 ((rd_T37 l0 (ji21)).f2), .int .i16 ((rd_T37 l0 (ji21)).f3), .int .i32 0] hb; replace HB := sh_b (w := w) hb; replace HW := sh_b (w := ws) hb; have HI8 := Aside0.mk (ib_below (W := ws) HI.out HW.out); (try clear hb); (try clear hb2); (try clear hk); (try clear hi)) | ((with_reducible refine gate_callee (f := 15) rfl ?_); refine sh_call (some 69) Tryd.func15 #[.pointer (some ⟨gb4, 0, none⟩), .string t176] ?_; (with_reducible refine (Tryd.Builder_WriteString_k gb4 gb4 (Lib.strCells x4_1) t176 _ HI8.out (by rw [Lib.strCells_length]; exact M9.out) (ib_lt HI8.out)).mono ?_); rintro e w15 ⟨rfl, hbw, hbl, _⟩; refine ⟨_, rfl, ?_⟩; have HI9 := Aside0.mk (show Lib.IsBuilderF 47 5 gb4 gb4 (Lib.strCells x4_1 ++ Lib.strCells t176) w15 from Or.inr hbw); replace HB := Aside0.mk (HB.out.trans (hbl.mono GE4.out)); clear hbw hbl) | ((with_reducible refine gate_callee (f := 17) rfl ?_); refine sh_call (some 70) Tryd.func17 #[.pointer (some ⟨gb4, 0, none⟩), .int .u8 10] ?_; (with_reducible refine (Tryd.Builder_WriteByte_k gb4 gb4 (Lib.strCells x4_1 ++ Lib.strCells t176) 10 _ HI9.out (by rw [List.length_append, Lib.strCells_length, Lib.strCells_length]; exact M10.out) (ib_lt HI9.out)).mono ?_); rintro e w16 ⟨rfl, hbw, hbl, _⟩; refine ⟨_, rfl, ?_⟩; have HI10 := Aside0.mk (show Lib.IsBuilderF 47 5 gb4 gb4 ((Lib.strCells x4_1 ++ Lib.strCells t176) ++ [.int .u8 10]) w16 from Or.inr hbw); replace HB := Aside0.mk (HB.out.trans (hbl.mono GE4.out)); clear hbw hbl))
                  go_roundg kj6
                  case measure => have := HK1.out; have := HJ6.out; omega
                  case rel => exact ⟨((x4_1 ++ t176) ++ (⟨#[10]⟩ : ByteArray)), (wrap64 ((ji21) + 1)), (by first | rfl | (simp; done) | (simp only [← hji21] <;> (first | rfl | simp)) | (simp [*]; done)), H', ⟨by have := HK1.out; have := HJ6.out; omega⟩, ⟨b_now⟩, ⟨ib_cat HI10.out⟩⟩
                 ·rw [if_neg c33] at H
                  exact absurd H (by simp)
                ·rw [if_neg c32] at H
                 exact absurd H (by simp)
               ·rw [if_neg c30] at H
                obtain ⟨c30b0, c30b1⟩ := eqF c30
                obtain ⟨rfl, rfl⟩ := pi2 H
                have p174 : 0 ≤ ((ji21) : Int) := od_
                have q174 : (ji21) < (l0.length : Int) := od_
                obtain ⟨ad174, e174, hx174_0, hx174_1, hx174_2, hx174_3, hx174_4⟩ := at_T37 HR0.out (ji21) p174 q174
                obtain rfl : ad165 = ad174 := (by injection e174)
                replace hx174_0 := (HB.out.cell (World.block_lt_of_cell? w _ hx174_0)).trans hx174_0
                replace hx174_1 := (HB.out.cell (World.block_lt_of_cell? w _ hx174_1)).trans hx174_1
                replace hx174_2 := (HB.out.cell (World.block_lt_of_cell? w _ hx174_2)).trans hx174_2
                replace hx174_3 := (HB.out.cell (World.block_lt_of_cell? w _ hx174_3)).trans hx174_3
                replace hx174_4 := (HB.out.cell (World.block_lt_of_cell? w _ hx174_4)).trans hx174_4
                replace p174 := eq_true p174
                replace q174 := eq_true q174
                go_upto_region 19 with (first | ((with_reducible refine gate_dst (N := 10) rfl ?_); refine sh_box 10 #[.int .u8 0, .int .u8 0, .int .u8 0, .int .i16 0, .int .i32 0] 37 ?_; intro gb175 hg w42 hbox hb; have GE175 := sh_z (w := w) hg; have GW175 := sh_z (w := ws) hg; have NB166_175 := sh_n BK166 hg; have NB173_175 := sh_n BK173 hg; have NB175_166 := sh_s NB166_175; have NB175_173 := sh_s NB173_175; replace BK166 := sh_k BK166 hb; replace BK173 := sh_k BK173 hb; replace HB := sh_b (w := w) hb; replace HW := sh_b (w := ws) hb; have BK175 := Aside0.mk (hbox); clear hb hbox hg; obtain ⟨hnb43, hnc43⟩ := nb_ NB175_166; obtain ⟨hnb44, hnc44⟩ := nb_ NB175_173; have hcz45 := blk_all5 BK175.out; obtain ⟨hnb46, hnc46⟩ := nb_ NB173_166; have hcz47 := blk_all5 BK173.out))
                refine name_any (fun W => W.heap[gb175]? = some (.cells #[.int .u8 ((rd_T37 l0 (ji21)).f0), .int .u8 ((rd_T37 l0 (ji21)).f1), .int .u8 ((rd_T37 l0 (ji21)).f2), .int .i16 ((rd_T37 l0 (ji21)).f3), .int .i32 0] 37 (0, 0)) ∧ W.heap[gb166]? = some (.cells #[.int .u8 ((rd_T37 l0 x5_1).f0), .int .u8 ((rd_T37 l0 x5_1).f1), .int .u8 ((rd_T37 l0 x5_1).f2), .int .i16 ((rd_T37 l0 x5_1).f3), .int .i32 ((rd_T37 l0 x5_1).f4)] 37 (0, 0)) ∧ W.heap[gb173]? = some (.cells #[.int .i64 t167, .int .i64 t168, .int .i64 t169, .bool t170, .bool t171] 49 (0, 0)) ∧ Below w.heap.size w W ∧ Below ws.heap.size ws W) ⟨bk_now, bk_now, bk_now, b_now, b_now⟩ ?_
                clear BK166 BK173 BK175 HB HW
                rintro wz ⟨k_0, k_1, k_2, k_3, k_4⟩
                have BK175 := Aside0.mk k_0
                have BK166 := Aside0.mk k_1
                have BK173 := Aside0.mk k_2
                have HB := Aside0.mk k_3
                have HW := Aside0.mk k_4
                clear k_0 k_1 k_2 k_3 k_4
                have hcy1 := blk_all5 BK175.out
                have hcy2 := blk_all5 BK173.out
                have hcy3 := blk_all5 BK166.out
                go_wp2
                go_ret2
                exact ⟨by first | rfl | (simp [errW_none, errW_some] <;> rfl) | (simp only [← hji21]; first | rfl | (simp [errW_none, errW_some] <;> rfl)) | (simp [*, errW_none, errW_some] <;> rfl), b_now⟩
              ·rw [if_neg c29] at H
               obtain ⟨c29b0, c29b1⟩ := eqF c29
               obtain ⟨t177, A48, H⟩ := bs_ H; try dsimp only at H
               by_cases c49 : x4_1.size + t177.size ≤ 140737488355328
               ·rw [if_pos c49] at H
                have c49b0 := eq_true c49
                have c49b1 : decide (x4_1.size + t177.size ≤ 140737488355328) = true := decide_eq_true c49
                try have c49b2 : (140737488355328 < x4_1.size + t177.size) = False := eq_false (Nat.not_lt.2 c49)
                by_cases c50 : (x4_1 ++ t177).size + 1 ≤ 140737488355328
                ·rw [if_pos c50] at H
                 have c50b0 := eq_true c50
                 have c50b1 : decide ((x4_1 ++ t177).size + 1 ≤ 140737488355328) = true := decide_eq_true c50
                 try have c50b2 : (140737488355328 < (x4_1 ++ t177).size + 1) = False := eq_false (Nat.not_lt.2 c50)
                 have H' := Aside0.mk H
                 clear H
                 have p174 : 0 ≤ ((ji21) : Int) := od_
                 have q174 : (ji21) < (l0.length : Int) := od_
                 obtain ⟨ad174, e174, hx174_0, hx174_1, hx174_2, hx174_3, hx174_4⟩ := at_T37 HR0.out (ji21) p174 q174
                 obtain rfl : ad165 = ad174 := (by injection e174)
                 replace hx174_0 := (HB.out.cell (World.block_lt_of_cell? w _ hx174_0)).trans hx174_0
                 replace hx174_1 := (HB.out.cell (World.block_lt_of_cell? w _ hx174_1)).trans hx174_1
                 replace hx174_2 := (HB.out.cell (World.block_lt_of_cell? w _ hx174_2)).trans hx174_2
                 replace hx174_3 := (HB.out.cell (World.block_lt_of_cell? w _ hx174_3)).trans hx174_3
                 replace hx174_4 := (HB.out.cell (World.block_lt_of_cell? w _ hx174_4)).trans hx174_4
                 replace p174 := eq_true p174
                 replace q174 := eq_true q174
                 have M9 : Aside0 (x4_1.size + t177.size ≤ 140737488355328) := ⟨by assumption⟩
                 have M10 : Aside0 (x4_1.size + t177.size + 1 ≤ 140737488355328) := ⟨by have h_ : (x4_1 ++ t177).size + 1 ≤ 140737488355328 := (by assumption); simp only [ByteArray.size_append] at h_; exact h_⟩
                 go_upto_region 19 with (first | ((with_reducible refine gate_dst (N := 10) rfl ?_); refine sh_box 10 #[.int .u8 0, .int .u8 0, .int .u8 0, .int .i16 0, .int .i32 0] 37 ?_; intro gb175 hg w51 hbox hb; have GE175 := sh_z (w := w) hg; have GW175 := sh_z (w := ws) hg; have NB166_175 := sh_n BK166 hg; have NB173_175 := sh_n BK173 hg; have NB175_166 := sh_s NB166_175; have NB175_173 := sh_s NB173_175; replace BK166 := sh_k BK166 hb; replace BK173 := sh_k BK173 hb; replace HB := sh_b (w := w) hb; replace HW := sh_b (w := ws) hb; have BK175 := Aside0.mk (hbox); clear hb hbox hg; obtain ⟨hnb52, hnc52⟩ := nb_ NB175_166; obtain ⟨hnb53, hnc53⟩ := nb_ NB175_173; have hcz54 := blk_all5 BK175.out; obtain ⟨hnb55, hnc55⟩ := nb_ NB173_166; have hcz56 := blk_all5 BK173.out; have hcz57 := blk_all5 BK166.out))
                 refine name_any (fun W => W.heap[gb175]? = some (.cells #[.int .u8 ((rd_T37 l0 (ji21)).f0), .int .u8 ((rd_T37 l0 (ji21)).f1), .int .u8 ((rd_T37 l0 (ji21)).f2), .int .i16 ((rd_T37 l0 (ji21)).f3), .int .i32 0] 37 (0, 0)) ∧ W.heap[gb166]? = some (.cells #[.int .u8 ((rd_T37 l0 x5_1).f0), .int .u8 ((rd_T37 l0 x5_1).f1), .int .u8 ((rd_T37 l0 x5_1).f2), .int .i16 ((rd_T37 l0 x5_1).f3), .int .i32 ((rd_T37 l0 x5_1).f4)] 37 (0, 0)) ∧ W.heap[gb173]? = some (.cells #[.int .i64 t167, .int .i64 t168, .int .i64 t169, .bool t170, .bool t171] 49 (0, 0)) ∧ Below w.heap.size w W ∧ Below ws.heap.size ws W) ⟨bk_now, bk_now, bk_now, b_now, b_now⟩ ?_
                 clear BK166 BK173 BK175 HB HW
                 rintro wz ⟨k_0, k_1, k_2, k_3, k_4⟩
                 have BK175 := Aside0.mk k_0
                 have BK166 := Aside0.mk k_1
                 have BK173 := Aside0.mk k_2
                 have HB := Aside0.mk k_3
                 have HW := Aside0.mk k_4
                 clear k_0 k_1 k_2 k_3 k_4
                 have hcy1 := blk_all5 BK175.out
                 have hcy2 := blk_all5 BK173.out
                 have hcy3 := blk_all5 BK166.out
                 go_wp2_with (first | ((with_reducible refine gate_callee (f := 16) rfl ?_); refine goesL_ (some 68) rfl rfl Tryd.func16 (by kernel_rfl) rfl #[.agg #[.int .i64 t167, .int .i64 t168, .int .i64 t169, .bool t170, .bool t171], .agg #[.int .u8 ((rd_T37 l0 x5_1).f0), .int .u8 ((rd_T37 l0 x5_1).f1), .int .u8 ((rd_T37 l0 x5_1).f2), .int .i16 ((rd_T37 l0 x5_1).f3), .int .i32 ((rd_T37 l0 x5_1).f4)], .int .i32 ((rd_T37 l0 (ji21)).f4)] rfl (by (try simp only [List.map_toArray, List.map_cons, List.map_nil]); first | done | (simp only [hji21]; rfl) | rfl | (simp only [List.length_drop, List.length_take]; rfl)) ?_; (with_reducible refine (asm_line.calls kj6 t167 t168 t169 t170 t171 ((rd_T37 l0 x5_1).f0) ((rd_T37 l0 x5_1).f1) ((rd_T37 l0 x5_1).f2) ((rd_T37 l0 x5_1).f3) ((rd_T37 l0 x5_1).f4) ((rd_T37 l0 (ji21)).f4) t177 _ ?side1 ?side2 ?side3 A48.out).mono ?_); (case side1 => exact Kd.C_below HRG0.out b_now); (case side2 => exact Kd.C_below HRG1.out b_now); (case side3 => exact Kd.C_below HRG3.out b_now); rintro e w58 ⟨rfl, hb⟩; refine ⟨_, rfl, ?_⟩; replace BK166 := sh_kp (g := gb166) (t := 37) #[.int .u8 ((rd_T37 l0 x5_1).f0), .int .u8 ((rd_T37 l0 x5_1).f1), .int .u8 ((rd_T37 l0 x5_1).f2), .int .i16 ((rd_T37 l0 x5_1).f3), .int .i32 ((rd_T37 l0 x5_1).f4)] hb; replace BK173 := sh_kp (g := gb173) (t := 49) #[.int .i64 t167, .int .i64 t168, .int .i64 t169, .bool t170, .bool t171] hb; replace BK175 := sh_kp (g := gb175) (t := 37) #[.int .u8 ((rd_T37 l0 (ji21)).f0), .int .u8 ((rd_T37 l0 (ji21)).f1), .int .u8 ((rd_T37 l0 (ji21)).f2), .int .i16 ((rd_T37 l0 (ji21)).f3), .int .i32 0] hb; replace HB := sh_b (w := w) hb; replace HW := sh_b (w := ws) hb; have HI8 := Aside0.mk (ib_below (W := ws) HI.out HW.out); (try clear hb); (try clear hb2); (try clear hk); (try clear hi)) | ((with_reducible refine gate_callee (f := 15) rfl ?_); refine sh_call (some 69) Tryd.func15 #[.pointer (some ⟨gb4, 0, none⟩), .string t177] ?_; (with_reducible refine (Tryd.Builder_WriteString_k gb4 gb4 (Lib.strCells x4_1) t177 _ HI8.out (by rw [Lib.strCells_length]; exact M9.out) (ib_lt HI8.out)).mono ?_); rintro e w15 ⟨rfl, hbw, hbl, _⟩; refine ⟨_, rfl, ?_⟩; have HI9 := Aside0.mk (show Lib.IsBuilderF 47 5 gb4 gb4 (Lib.strCells x4_1 ++ Lib.strCells t177) w15 from Or.inr hbw); replace HB := Aside0.mk (HB.out.trans (hbl.mono GE4.out)); clear hbw hbl) | ((with_reducible refine gate_callee (f := 17) rfl ?_); refine sh_call (some 70) Tryd.func17 #[.pointer (some ⟨gb4, 0, none⟩), .int .u8 10] ?_; (with_reducible refine (Tryd.Builder_WriteByte_k gb4 gb4 (Lib.strCells x4_1 ++ Lib.strCells t177) 10 _ HI9.out (by rw [List.length_append, Lib.strCells_length, Lib.strCells_length]; exact M10.out) (ib_lt HI9.out)).mono ?_); rintro e w16 ⟨rfl, hbw, hbl, _⟩; refine ⟨_, rfl, ?_⟩; have HI10 := Aside0.mk (show Lib.IsBuilderF 47 5 gb4 gb4 ((Lib.strCells x4_1 ++ Lib.strCells t177) ++ [.int .u8 10]) w16 from Or.inr hbw); replace HB := Aside0.mk (HB.out.trans (hbl.mono GE4.out)); clear hbw hbl))
                 go_roundg kj6
                 case measure => have := HK1.out; have := HJ6.out; omega
                 case rel => exact ⟨((x4_1 ++ t177) ++ (⟨#[10]⟩ : ByteArray)), (wrap64 ((ji21) + 1)), (by first | rfl | (simp; done) | (simp only [← hji21] <;> (first | rfl | simp)) | (simp [*]; done)), H', ⟨by have := HK1.out; have := HJ6.out; omega⟩, ⟨b_now⟩, ⟨ib_cat HI10.out⟩⟩
                ·rw [if_neg c50] at H
                 exact absurd H (by simp)
               ·rw [if_neg c49] at H
                exact absurd H (by simp)
            ·rw [if_neg c23] at H
             exact absurd H (by simp)
           ·rw [if_neg c22] at H
            exact absurd H (by simp)
         ·replace c19 := Bool.eq_false_iff.mpr c19
          subst c19
          replace H := sh_f H
          obtain ⟨t178, A59, H⟩ := bs_ H; try dsimp only at H
          by_cases c60 : x4_1.size + t178.size ≤ 140737488355328
          ·rw [if_pos c60] at H
           have c60b0 := eq_true c60
           have c60b1 : decide (x4_1.size + t178.size ≤ 140737488355328) = true := decide_eq_true c60
           try have c60b2 : (140737488355328 < x4_1.size + t178.size) = False := eq_false (Nat.not_lt.2 c60)
           by_cases c61 : (x4_1 ++ t178).size + 1 ≤ 140737488355328
           ·rw [if_pos c61] at H
            have c61b0 := eq_true c61
            have c61b1 : decide ((x4_1 ++ t178).size + 1 ≤ 140737488355328) = true := decide_eq_true c61
            try have c61b2 : (140737488355328 < (x4_1 ++ t178).size + 1) = False := eq_false (Nat.not_lt.2 c61)
            have H' := Aside0.mk H
            clear H
            obtain ⟨hnb62, hnc62⟩ := nb_ NB173_166
            have hcz63 := blk_all5 BK173.out
            have hcz64 := blk_all5 BK166.out
            have M9 : Aside0 (x4_1.size + t178.size ≤ 140737488355328) := ⟨by assumption⟩
            have M10 : Aside0 (x4_1.size + t178.size + 1 ≤ 140737488355328) := ⟨by have h_ : (x4_1 ++ t178).size + 1 ≤ 140737488355328 := (by assumption); simp only [ByteArray.size_append] at h_; exact h_⟩
            go_wp2_with (first | ((with_reducible refine gate_callee (f := 16) rfl ?_); refine sh_call (some 68) Tryd.func16 #[.agg #[.int .i64 t167, .int .i64 t168, .int .i64 t169, .bool t170, .bool t171], .agg #[.int .u8 ((rd_T37 l0 x5_1).f0), .int .u8 ((rd_T37 l0 x5_1).f1), .int .u8 ((rd_T37 l0 x5_1).f2), .int .i16 ((rd_T37 l0 x5_1).f3), .int .i32 ((rd_T37 l0 x5_1).f4)], .int .i32 0] ?_; (with_reducible refine (asm_line.calls kj6 t167 t168 t169 t170 t171 ((rd_T37 l0 x5_1).f0) ((rd_T37 l0 x5_1).f1) ((rd_T37 l0 x5_1).f2) ((rd_T37 l0 x5_1).f3) ((rd_T37 l0 x5_1).f4) 0 t178 _ ?side1 ?side2 ?side3 A59.out).mono ?_); (case side1 => repeat (first | exact (Kd.C_below HRG0.out HB.out) | (with_reducible refine Kd.C_alloc ?_ _) | (with_reducible refine Kd.C_drewN ?_ _) | (with_reducible refine Kd.C_drew ?_))); (case side2 => repeat (first | exact (Kd.C_below HRG1.out HB.out) | (with_reducible refine Kd.C_alloc ?_ _) | (with_reducible refine Kd.C_drewN ?_ _) | (with_reducible refine Kd.C_drew ?_))); (case side3 => repeat (first | exact (Kd.C_below HRG3.out HB.out) | (with_reducible refine Kd.C_alloc ?_ _) | (with_reducible refine Kd.C_drewN ?_ _) | (with_reducible refine Kd.C_drew ?_))); rintro e w65 ⟨rfl, hb⟩; refine ⟨_, rfl, ?_⟩; replace BK166 := sh_k BK166 hb; replace BK173 := sh_k BK173 hb; replace HB := sh_b (w := w) hb; replace HW := sh_b (w := ws) hb; have HI8 := Aside0.mk (ib_below (W := ws) HI.out HW.out); (try clear hb); (try clear hb2); (try clear hk); (try clear hi)) | ((with_reducible refine gate_callee (f := 15) rfl ?_); refine sh_call (some 69) Tryd.func15 #[.pointer (some ⟨gb4, 0, none⟩), .string t178] ?_; (with_reducible refine (Tryd.Builder_WriteString_k gb4 gb4 (Lib.strCells x4_1) t178 _ HI8.out (by rw [Lib.strCells_length]; exact M9.out) (ib_lt HI8.out)).mono ?_); rintro e w15 ⟨rfl, hbw, hbl, _⟩; refine ⟨_, rfl, ?_⟩; have HI9 := Aside0.mk (show Lib.IsBuilderF 47 5 gb4 gb4 (Lib.strCells x4_1 ++ Lib.strCells t178) w15 from Or.inr hbw); replace HB := Aside0.mk (HB.out.trans (hbl.mono GE4.out)); clear hbw hbl) | ((with_reducible refine gate_callee (f := 17) rfl ?_); refine sh_call (some 70) Tryd.func17 #[.pointer (some ⟨gb4, 0, none⟩), .int .u8 10] ?_; (with_reducible refine (Tryd.Builder_WriteByte_k gb4 gb4 (Lib.strCells x4_1 ++ Lib.strCells t178) 10 _ HI9.out (by rw [List.length_append, Lib.strCells_length, Lib.strCells_length]; exact M10.out) (ib_lt HI9.out)).mono ?_); rintro e w16 ⟨rfl, hbw, hbl, _⟩; refine ⟨_, rfl, ?_⟩; have HI10 := Aside0.mk (show Lib.IsBuilderF 47 5 gb4 gb4 ((Lib.strCells x4_1 ++ Lib.strCells t178) ++ [.int .u8 10]) w16 from Or.inr hbw); replace HB := Aside0.mk (HB.out.trans (hbl.mono GE4.out)); clear hbw hbl))
            go_roundg kj6
            case measure => have := HK1.out; have := HJ6.out; omega
            case rel => exact ⟨((x4_1 ++ t178) ++ (⟨#[10]⟩ : ByteArray)), (wrap64 (x5_1 + 1)), eq_now, H', ⟨by have := HK1.out; have := HJ6.out; omega⟩, ⟨b_now⟩, ⟨ib_cat HI10.out⟩⟩
           ·rw [if_neg c61] at H
            exact absurd H (by simp)
          ·rw [if_neg c60] at H
           exact absurd H (by simp)
      ·rw [if_neg c6] at H
       obtain ⟨c6b0, c6b1⟩ := eqF c6
       obtain ⟨rfl, rfl⟩ := pi2 H
       have p165 : 0 ≤ (x5_1 : Int) := od_
       have q165 : x5_1 < (l0.length : Int) := od_
       obtain ⟨ad165, e165, hx165_0, hx165_1, hx165_2, hx165_3, hx165_4⟩ := at_T37 HR0.out x5_1 p165 q165
       cases e165
       replace hx165_0 := (HB.out.cell (World.block_lt_of_cell? w _ hx165_0)).trans hx165_0
       replace hx165_1 := (HB.out.cell (World.block_lt_of_cell? w _ hx165_1)).trans hx165_1
       replace hx165_2 := (HB.out.cell (World.block_lt_of_cell? w _ hx165_2)).trans hx165_2
       replace hx165_3 := (HB.out.cell (World.block_lt_of_cell? w _ hx165_3)).trans hx165_3
       replace hx165_4 := (HB.out.cell (World.block_lt_of_cell? w _ hx165_4)).trans hx165_4
       replace p165 := eq_true p165
       replace q165 := eq_true q165
       go_wp2_with (first | ((with_reducible refine gate_dst (N := 6) rfl ?_); refine sh_box 6 #[.int .u8 0, .int .u8 0, .int .u8 0, .int .i16 0, .int .i32 0] 37 ?_; intro gb166 hg w66 hbox hb; have GE166 := sh_z (w := w) hg; have GW166 := sh_z (w := ws) hg; replace HB := sh_b (w := w) hb; replace HW := sh_b (w := ws) hb; have BK166 := Aside0.mk (hbox); clear hb hbox hg; have hcz67 := blk_all5 BK166.out) | ((with_reducible refine gate_callee (f := 14) rfl ?_); refine sh_call (some 26) Tryd.func14 #[.agg #[.int .u8 ((rd_T37 l0 x5_1).f0), .int .u8 ((rd_T37 l0 x5_1).f1), .int .u8 ((rd_T37 l0 x5_1).f2), .int .i16 ((rd_T37 l0 x5_1).f3), .int .i32 ((rd_T37 l0 x5_1).f4)]] ?_; (with_reducible refine (insn_Of.calls k1 ((rd_T37 l0 x5_1).f0) ((rd_T37 l0 x5_1).f1) ((rd_T37 l0 x5_1).f2) ((rd_T37 l0 x5_1).f3) ((rd_T37 l0 x5_1).f4) t167 t168 t169 t170 t171 t172 _ ?side1 A5.out).mono ?_); (case side1 => exact Kd.C_below HRG2.out b_now); rintro e w68 ⟨rfl, hb⟩; refine ⟨_, rfl, ?_⟩; replace BK166 := sh_kp (g := gb166) (t := 37) #[.int .u8 ((rd_T37 l0 x5_1).f0), .int .u8 ((rd_T37 l0 x5_1).f1), .int .u8 ((rd_T37 l0 x5_1).f2), .int .i16 ((rd_T37 l0 x5_1).f3), .int .i32 ((rd_T37 l0 x5_1).f4)] hb; replace HB := sh_b (w := w) hb; replace HW := sh_b (w := ws) hb; (try clear hb); (try clear hb2); (try clear hk); (try clear hi)) | ((with_reducible refine gate_dst (N := 7) rfl ?_); refine sh_box 7 #[.int .i64 0, .int .i64 0, .int .i64 0, .bool false, .bool false] 49 ?_; intro gb173 hg w69 hbox hb; have GE173 := sh_z (w := w) hg; have GW173 := sh_z (w := ws) hg; have NB166_173 := sh_n BK166 hg; have NB173_166 := sh_s NB166_173; replace BK166 := sh_k BK166 hb; replace HB := sh_b (w := w) hb; replace HW := sh_b (w := ws) hb; have BK173 := Aside0.mk (hbox); clear hb hbox hg; obtain ⟨hnb70, hnc70⟩ := nb_ NB173_166; have hcz71 := blk_all5 BK173.out))
       go_ret2
       exact ⟨ret_now, b_now⟩
     ·rw [if_neg c4] at H
      exact absurd H (by simp)
    ·rw [if_neg c3] at H
     have c3b0 : decide (x5_1 < (l0.length : Int)) = false := decide_eq_false c3
     clear c3
     obtain ⟨rfl, rfl⟩ := pi2 H
     have HIb := Aside0.mk (ib_bytes (ib_below (W := ws) HI.out b_now))
     go_wp2_with (first | ((with_reducible refine gate_callee (f := 18) rfl ?_); refine sh_call (some 71) Tryd.func18 #[.pointer (some ⟨gb4, 0, none⟩)] ?_; (with_reducible refine (Tryd.Builder_String_any_k gb4 gb4 x4_1.data.toList _ HIb.out (ib_lt HIb.out)).mono ?_); rintro e w18 ⟨he, _, hbl, _⟩; replace he : e = .returned (.string x4_1) := he; subst he; refine ⟨_, rfl, ?_⟩; replace HB := Aside0.mk (HB.out.trans (hbl.mono GE4.out)); clear hbl))
     go_ret2
     exact ⟨ret_now, b_now⟩

/-! ### stockadelaw03_same: function 11 -/
def stockadelaw03_same.l0 : Nat → List (S37) → List (S37) → Int → Option (Bool)
 | 0, _, _, _ => none
 | k + 1, x0, x1, x5 => if x5 < (x0.length : Int) then (if 0 ≤ x5 then (if x5 < (x1.length : Int) then (if (!(((rd_T37 x0 x5).f0) == ((rd_T37 x1 x5).f0)) || (!(((rd_T37 x0 x5).f1) == ((rd_T37 x1 x5).f1)) || (!(((rd_T37 x0 x5).f2) == ((rd_T37 x1 x5).f2)) || (!(((rd_T37 x0 x5).f3) == ((rd_T37 x1 x5).f3)) || (!(((rd_T37 x0 x5).f4) == ((rd_T37 x1 x5).f4))))))) = true then (some false) else (stockadelaw03_same.l0 k x0 x1 (wrap64 (x5 + 1)))) else (none)) else (none)) else (some true)
def stockadelaw03_same.f (k : Nat) (l0 : List (S37)) (l1 : List (S37)) : Option (Bool) := if (l0.length : Int) = (l1.length : Int) then (stockadelaw03_same.l0 k l0 l1 0) else (some false)
theorem stockadelaw03_same.mono_l : ∀ k, (∀ y0 y1 y2, LeO (stockadelaw03_same.l0 k y0 y1 y2) (stockadelaw03_same.l0 (k + 1) y0 y1 y2))
 | 0 => fun _ _ _ r h => by simp [stockadelaw03_same.l0] at h
 | k + 1 => by
  have ih0 := stockadelaw03_same.mono_l k
  ·intro y0 y1 y2
   unfold stockadelaw03_same.l0
   repeat' first
   | (with_reducible exact ih0 _ _ _)
   | (with_reducible exact LeO.refl _)
   | (with_reducible exact LeO.none _)
   | (with_reducible refine LeO.ite ?_ ?_)
   | (with_reducible refine LeO.bind ?_ (fun _ => ?_))
   | refine LeO.ite ?_ ?_
   | refine LeO.bind ?_ (fun _ => ?_)
theorem stockadelaw03_same.mono : ∀ a0 a1 k, LeO (stockadelaw03_same.f k a0 a1) (stockadelaw03_same.f (k + 1) a0 a1) := by
 intro a0 a1 k
 have ih0 := stockadelaw03_same.mono_l k
 unfold stockadelaw03_same.f
 repeat' first
   | (with_reducible exact ih0 _ _ _)
   | (with_reducible exact LeO.refl _)
   | (with_reducible exact LeO.none _)
   | (with_reducible refine LeO.ite ?_ ?_)
   | (with_reducible refine LeO.bind ?_ (fun _ => ?_))
   | refine LeO.ite ?_ ?_
   | refine LeO.bind ?_ (fun _ => ?_)
set_option maxHeartbeats 8000000 in
set_option maxRecDepth 100000 in
theorem stockadelaw03_same.calls (k : Nat) (A0 : Option Addr) (c0 : Nat) (l0 : List (S37)) (A1 : Option Addr) (c1 : Nat) (l1 : List (S37)) (r : Bool) (w : World) (hr0 : Kd.C k37 w A0 l0.length l0) (hc0 : l0.length ≤ c0) (hr1 : Kd.C k37 w A1 l1.length l1) (hc1 : l1.length ≤ c1) (h : stockadelaw03_same.f k l0 l1 = some r) :
  Calls Tryd.prog 11 #[.slice A0 l0.length c0, .slice A1 l1.length c1] w fun e w' => e = .returned (.bool r) ∧ Drawn0 w w' := by
 have hu37 := Tryd.underlying37
 have HR0 := Aside0.mk hr0
 have HC0 := Aside0.mk hc0
 clear hr0 hc0
 have HR1 := Aside0.mk hr1
 have HC1 := Aside0.mk hc1
 clear hr1 hc1
 have H : (if (l0.length : Int) = (l1.length : Int) then (stockadelaw03_same.l0 k l0 l1 0) else (some false)) = some r := h
 clear h
 by_cases c3 : (l0.length : Int) = (l1.length : Int)
 ·rw [if_pos c3] at H
  obtain ⟨c3b0, c3b1⟩ := eqT c3
  have c3b2 : (l0.length == l1.length) = true := by first | simpa using c3 | (simp at c3 ⊢; omega)
  clear c3
  have H' := Aside0.mk H
  clear H
  go_enter Tryd.func11, Tryd.ntmps11
  go_wp2
  repeat (go_quiet (fail); try go_wp2)
  go_loopg [5] k (fun kq v5 w' => ∃ (x5_1 : Int), v5 = .int .i64 x5_1 ∧ Aside0 (stockadelaw03_same.l0 kq l0 l1 x5_1 = some r) ∧ Aside0 (kq ≤ k) ∧ Drawn0 w w')
  case atStart => exact ⟨(0), eq_now, H', ⟨Nat.le_refl _⟩, by repeat (first | exact Drawn0.refl _ | apply Drawn0.step)⟩
  case round =>
   clear H'
   clear c3b0 c3b1 c3b2
   obtain ⟨x5_1, rfl, HA, HK1, ⟨m1, rfl⟩⟩ := hrel
   cases gk with
   | zero => exact absurd HA.out (by simp [stockadelaw03_same.l0])
   | succ k1 =>
    have H := HA.out
    clear HA
    simp only [stockadelaw03_same.l0] at H
    by_cases c4 : x5_1 < (l0.length : Int)
    ·rw [if_pos c4] at H
     have c4b0 : decide (x5_1 < (l0.length : Int)) = true := decide_eq_true c4
     clear c4
     by_cases c5 : 0 ≤ x5_1
     ·rw [if_pos c5] at H
      have c5b0 : decide (0 ≤ x5_1) = true := decide_eq_true c5
      clear c5
      by_cases c6 : x5_1 < (l1.length : Int)
      ·rw [if_pos c6] at H
       have c6b0 : decide (x5_1 < (l1.length : Int)) = true := decide_eq_true c6
       clear c6
       by_cases c7 : (!(((rd_T37 l0 x5_1).f0) == ((rd_T37 l1 x5_1).f0)) || (!(((rd_T37 l0 x5_1).f1) == ((rd_T37 l1 x5_1).f1)) || (!(((rd_T37 l0 x5_1).f2) == ((rd_T37 l1 x5_1).f2)) || (!(((rd_T37 l0 x5_1).f3) == ((rd_T37 l1 x5_1).f3)) || (!(((rd_T37 l0 x5_1).f4) == ((rd_T37 l1 x5_1).f4))))))) = true
       ·rw [if_pos c7] at H
        have c7b0 : (!(((rd_T37 l0 x5_1).f0) == ((rd_T37 l1 x5_1).f0)) || (!(((rd_T37 l0 x5_1).f1) == ((rd_T37 l1 x5_1).f1)) || (!(((rd_T37 l0 x5_1).f2) == ((rd_T37 l1 x5_1).f2)) || (!(((rd_T37 l0 x5_1).f3) == ((rd_T37 l1 x5_1).f3)) || (!(((rd_T37 l0 x5_1).f4) == ((rd_T37 l1 x5_1).f4))))))) = true := c7
        clear c7
        obtain rfl := Option.some.inj H
        have p179 : 0 ≤ (x5_1 : Int) := od_
        have q179 : x5_1 < (l0.length : Int) := od_
        obtain ⟨ad179, e179, hx179_0, hx179_1, hx179_2, hx179_3, hx179_4⟩ := at_T37 HR0.out x5_1 p179 q179
        cases e179
        replace p179 := eq_true p179
        replace q179 := eq_true q179
        have p180 : 0 ≤ (x5_1 : Int) := od_
        have q180 : x5_1 < (l1.length : Int) := od_
        obtain ⟨ad180, e180, hx180_0, hx180_1, hx180_2, hx180_3, hx180_4⟩ := at_T37 HR1.out x5_1 p180 q180
        cases e180
        replace p180 := eq_true p180
        replace q180 := eq_true q180
        go_wp2
        repeat (go_quiet (fail); try go_wp2)
        go_ret
        exact ⟨by first | rfl | (simp; done) | (simp [*]; done), by repeat (first | exact Drawn0.refl _ | apply Drawn0.step)⟩
       ·rw [if_neg c7] at H
        have c7b0 : (!(((rd_T37 l0 x5_1).f0) == ((rd_T37 l1 x5_1).f0)) || (!(((rd_T37 l0 x5_1).f1) == ((rd_T37 l1 x5_1).f1)) || (!(((rd_T37 l0 x5_1).f2) == ((rd_T37 l1 x5_1).f2)) || (!(((rd_T37 l0 x5_1).f3) == ((rd_T37 l1 x5_1).f3)) || (!(((rd_T37 l0 x5_1).f4) == ((rd_T37 l1 x5_1).f4))))))) = false := by simpa using c7
        clear c7
        have H' := Aside0.mk H
        clear H
        have p179 : 0 ≤ (x5_1 : Int) := od_
        have q179 : x5_1 < (l0.length : Int) := od_
        obtain ⟨ad179, e179, hx179_0, hx179_1, hx179_2, hx179_3, hx179_4⟩ := at_T37 HR0.out x5_1 p179 q179
        cases e179
        replace p179 := eq_true p179
        replace q179 := eq_true q179
        have p180 : 0 ≤ (x5_1 : Int) := od_
        have q180 : x5_1 < (l1.length : Int) := od_
        obtain ⟨ad180, e180, hx180_0, hx180_1, hx180_2, hx180_3, hx180_4⟩ := at_T37 HR1.out x5_1 p180 q180
        cases e180
        replace p180 := eq_true p180
        replace q180 := eq_true q180
        go_wp2
        repeat (go_quiet (fail); try go_wp2)
        go_roundg k1
        case measure => have := HK1.out; omega
        case rel => exact ⟨(wrap64 (x5_1 + 1)), eq_now, H', ⟨by have := HK1.out; omega⟩, by repeat (first | exact Drawn0.refl _ | apply Drawn0.step)⟩
      ·rw [if_neg c6] at H
       exact absurd H (by simp)
     ·rw [if_neg c5] at H
      exact absurd H (by simp)
    ·rw [if_neg c4] at H
     have c4b0 : decide (x5_1 < (l0.length : Int)) = false := decide_eq_false c4
     clear c4
     obtain rfl := Option.some.inj H
     go_wp2
     repeat (go_quiet (fail); try go_wp2)
     go_ret
     exact ⟨by first | rfl | (simp; done) | (simp [*]; done), by repeat (first | exact Drawn0.refl _ | apply Drawn0.step)⟩
 ·rw [if_neg c3] at H
  obtain ⟨c3b0, c3b1⟩ := eqF c3
  have c3b2 : (l0.length == l1.length) = false := by first | simpa using c3 | (simp at c3 ⊢; omega)
  obtain rfl := Option.some.inj H
  go_enter Tryd.func11, Tryd.ntmps11
  go_wp2
  repeat (go_quiet (fail); try go_wp2)
  go_ret
  exact ⟨by first | rfl | (simp; done) | (simp [*]; done), by repeat (first | exact Drawn0.refl _ | apply Drawn0.step)⟩

-- NOT PRINTED: function 81 (bytealg_IndexByteString)

-- NOT PRINTED: function 65 (stringslite_IndexByte)

-- NOT PRINTED: function 66 (bytealg_IndexString)

/-! ### bytealg_Cutover: function 67 -/
def bytealg_Cutover.f (a0 : Int) : Option (Int) := some (wrap64 (Int.tdiv (wrap64 (a0 + 16)) 8))
set_option maxHeartbeats 8000000 in
set_option maxRecDepth 100000 in
theorem bytealg_Cutover.calls (a0 : Int) (r : Int) (w : World) (h : bytealg_Cutover.f a0 = some r) :
  Calls Tryd.prog 67 #[.int .i64 a0] w fun e w' => e = .returned (.int .i64 r) ∧ Drawn0 w w' := by
 have H : (some (wrap64 (Int.tdiv (wrap64 (a0 + 16)) 8))) = some r := h
 clear h
 obtain rfl := Option.some.inj H
 go_enter Tryd.func67, Tryd.ntmps67
 go_wp2
 go_ret
 exact ⟨by first | rfl | (simp; done) | (simp [*]; done), by repeat (first | exact Drawn0.refl _ | apply Drawn0.step)⟩

/-! ### bytealg_hashStr_string: function 82 -/
mutual
def bytealg_hashStr_string.l0 : Nat → ByteArray → Int → Int → Option (Int × Int)
 | 0, _, _, _ => none
 | k + 1, x0, x4, x5 => if x5 < (x0.size : Int) then (if 0 ≤ x5 then (bytealg_hashStr_string.l0 k x0 ((((x4 * 16777619) % 4294967296) + ((bt x0 x5) % 4294967296)) % 4294967296) (wrap64 (x5 + 1))) else (none)) else (bytealg_hashStr_string.l1 k x4 1 16777619 (x0.size : Int))
def bytealg_hashStr_string.l1 : Nat → Int → Int → Int → Int → Option (Int × Int)
 | 0, _, _, _, _ => none
 | k + 1, x4, x6, x7, x8 => if x8 > 0 then (if (Go.bits .and .i64 x8 1) = 0 then (bytealg_hashStr_string.l1 k x4 x6 ((x7 * x7) % 4294967296) (x8 / 2)) else (bytealg_hashStr_string.l1 k x4 ((x6 * x7) % 4294967296) ((x7 * x7) % 4294967296) (x8 / 2))) else (some (x4, x6))
end
def bytealg_hashStr_string.f (k : Nat) (a0 : ByteArray) : Option (Int × Int) := bytealg_hashStr_string.l0 k a0 0 0
theorem bytealg_hashStr_string.mono_l : ∀ k, (∀ y0 y1 y2, LeO (bytealg_hashStr_string.l0 k y0 y1 y2) (bytealg_hashStr_string.l0 (k + 1) y0 y1 y2)) ∧ (∀ y0 y1 y2 y3, LeO (bytealg_hashStr_string.l1 k y0 y1 y2 y3) (bytealg_hashStr_string.l1 (k + 1) y0 y1 y2 y3))
 | 0 => ⟨fun _ _ _ r h => by simp [bytealg_hashStr_string.l0] at h, fun _ _ _ _ r h => by simp [bytealg_hashStr_string.l1] at h⟩
 | k + 1 => by
  obtain ⟨ih0, ih1⟩ := bytealg_hashStr_string.mono_l k
  refine ⟨?_, ?_⟩
  ·intro y0 y1 y2
   unfold bytealg_hashStr_string.l0
   repeat' first
   | (with_reducible exact ih0 _ _ _)
   | (with_reducible exact ih1 _ _ _ _)
   | (with_reducible exact LeO.refl _)
   | (with_reducible exact LeO.none _)
   | (with_reducible refine LeO.ite ?_ ?_)
   | (with_reducible refine LeO.bind ?_ (fun _ => ?_))
   | refine LeO.ite ?_ ?_
   | refine LeO.bind ?_ (fun _ => ?_)
  ·intro y0 y1 y2 y3
   unfold bytealg_hashStr_string.l1
   repeat' first
   | (with_reducible exact ih0 _ _ _)
   | (with_reducible exact ih1 _ _ _ _)
   | (with_reducible exact LeO.refl _)
   | (with_reducible exact LeO.none _)
   | (with_reducible refine LeO.ite ?_ ?_)
   | (with_reducible refine LeO.bind ?_ (fun _ => ?_))
   | refine LeO.ite ?_ ?_
   | refine LeO.bind ?_ (fun _ => ?_)
theorem bytealg_hashStr_string.mono : ∀ a0 k, LeO (bytealg_hashStr_string.f k a0) (bytealg_hashStr_string.f (k + 1) a0) := by
 intro a0 k
 obtain ⟨ih0, ih1⟩ := bytealg_hashStr_string.mono_l k
 unfold bytealg_hashStr_string.f
 repeat' first
   | (with_reducible exact ih0 _ _ _)
   | (with_reducible exact ih1 _ _ _ _)
   | (with_reducible exact LeO.refl _)
   | (with_reducible exact LeO.none _)
   | (with_reducible refine LeO.ite ?_ ?_)
   | (with_reducible refine LeO.bind ?_ (fun _ => ?_))
   | refine LeO.ite ?_ ?_
   | refine LeO.bind ?_ (fun _ => ?_)
set_option maxHeartbeats 8000000 in
set_option maxRecDepth 100000 in
theorem bytealg_hashStr_string.calls (k : Nat) (a0 : ByteArray) (r1 : Int) (r2 : Int) (w : World) (h : bytealg_hashStr_string.f k a0 = some (r1, r2)) :
  Calls Tryd.prog 82 #[.string a0] w fun e w' => e = .returned (.tuple #[.int .u32 r1, .int .u32 r2]) ∧ Drawn0 w w' := by
 have H : (bytealg_hashStr_string.l0 k a0 0 0) = some (r1, r2) := h
 clear h
 have H' := Aside0.mk H
 clear H
 go_enter Tryd.func82, Tryd.ntmps82
 go_wp2
 go_loopg [4, 5] k (fun kq v4 v5 w' => ∃ (x4_1 : Int) (x5_1 : Int), v4 = .int .u32 x4_1 ∧ v5 = .int .i64 x5_1 ∧ Aside0 (bytealg_hashStr_string.l0 kq a0 x4_1 x5_1 = some (r1, r2)) ∧ Aside0 (kq ≤ k) ∧ Drawn0 w w')
 case atStart => exact ⟨(0), (0), eq_now, eq_now, H', ⟨Nat.le_refl _⟩, by repeat (first | exact Drawn0.refl _ | apply Drawn0.step)⟩
 case round =>
  clear H'
  obtain ⟨x4_1, x5_1, rfl, rfl, HA, HK1, ⟨m1, rfl⟩⟩ := hrel
  cases gk with
  | zero => exact absurd HA.out (by simp [bytealg_hashStr_string.l0])
  | succ k1 =>
   have H := HA.out
   clear HA
   simp only [bytealg_hashStr_string.l0] at H
   by_cases c2 : x5_1 < (a0.size : Int)
   ·rw [if_pos c2] at H
    have c2b0 : decide (x5_1 < (a0.size : Int)) = true := decide_eq_true c2
    clear c2
    by_cases c3 : 0 ≤ x5_1
    ·rw [if_pos c3] at H
     have c3b0 : decide (0 ≤ x5_1) = true := decide_eq_true c3
     clear c3
     have H' := Aside0.mk H
     clear H
     have p4 : 0 ≤ (x5_1 : Int) := od_
     have q4 : x5_1 < (a0.size : Int) := od_
     have hx4 := bt_at a0 x5_1
     replace p4 := eq_true p4
     replace q4 := eq_true q4
     go_wp2
     go_roundg k1
     case measure => have := HK1.out; omega
     case rel => exact ⟨((((x4_1 * 16777619) % 4294967296) + ((bt a0 x5_1) % 4294967296)) % 4294967296), (wrap64 (x5_1 + 1)), eq_now, eq_now, H', ⟨by have := HK1.out; omega⟩, by repeat (first | exact Drawn0.refl _ | apply Drawn0.step)⟩
    ·rw [if_neg c3] at H
     exact absurd H (by simp)
   ·rw [if_neg c2] at H
    have c2b0 : decide (x5_1 < (a0.size : Int)) = false := decide_eq_false c2
    clear c2
    have H' := Aside0.mk H
    clear H
    go_wp2
    go_loopg [6, 7, 8] k1 (fun kq v6 v7 v8 w' => ∃ (x6_2 : Int) (x7_2 : Int) (x8_2 : Int), v6 = .int .u32 x6_2 ∧ v7 = .int .u32 x7_2 ∧ v8 = .int .i64 x8_2 ∧ Aside0 (bytealg_hashStr_string.l1 kq x4_1 x6_2 x7_2 x8_2 = some (r1, r2)) ∧ Aside0 (kq ≤ k1) ∧ Drawn0 w w')
    case atStart => exact ⟨(1), (16777619), ((a0.size : Int)), eq_now, eq_now, eq_now, H', ⟨Nat.le_refl _⟩, by repeat (first | exact Drawn0.refl _ | apply Drawn0.step)⟩
    case round =>
     clear H'
     clear c2b0
     obtain ⟨x6_2, x7_2, x8_2, rfl, rfl, rfl, HA, HK2, ⟨m2, rfl⟩⟩ := hrel
     cases gk with
     | zero => exact absurd HA.out (by simp [bytealg_hashStr_string.l1])
     | succ k2 =>
      have H := HA.out
      clear HA
      simp only [bytealg_hashStr_string.l1] at H
      by_cases c5 : x8_2 > 0
      ·rw [if_pos c5] at H
       have c5b0 : decide (0 < x8_2) = true := decide_eq_true c5
       clear c5
       by_cases c6 : (Go.bits .and .i64 x8_2 1) = 0
       ·rw [if_pos c6] at H
        obtain ⟨c6b0, c6b1⟩ := eqT c6
        clear c6
        have H' := Aside0.mk H
        clear H
        go_wp2
        go_roundg k2
        case measure => have := HK1.out; have := HK2.out; omega
        case rel => exact ⟨(x6_2), ((x7_2 * x7_2) % 4294967296), (x8_2 / 2), eq_now, eq_now, eq_now, H', ⟨by have := HK1.out; have := HK2.out; omega⟩, by repeat (first | exact Drawn0.refl _ | apply Drawn0.step)⟩
       ·rw [if_neg c6] at H
        obtain ⟨c6b0, c6b1⟩ := eqF c6
        have H' := Aside0.mk H
        clear H
        go_wp2
        go_roundg k2
        case measure => have := HK1.out; have := HK2.out; omega
        case rel => exact ⟨((x6_2 * x7_2) % 4294967296), ((x7_2 * x7_2) % 4294967296), (x8_2 / 2), eq_now, eq_now, eq_now, H', ⟨by have := HK1.out; have := HK2.out; omega⟩, by repeat (first | exact Drawn0.refl _ | apply Drawn0.step)⟩
      ·rw [if_neg c5] at H
       have c5b0 : decide (0 < x8_2) = false := decide_eq_false c5
       clear c5
       obtain ⟨rfl, rfl⟩ := pi2 H
       go_wp2
       go_ret2
       exact ⟨by first | rfl | (simp; done) | (simp [*]; done), by repeat (first | exact Drawn0.refl _ | apply Drawn0.step)⟩

end Go.Proofs.YtondogoepcndiaaDoor.P
