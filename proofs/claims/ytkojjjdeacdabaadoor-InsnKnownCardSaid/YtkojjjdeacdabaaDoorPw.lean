/- Made by this session's driver over the kit's printer: three functions of the program, as in the other texts of this print. -/
import Derived.Test.YtkojjjdeacdabaaDoorPx0
import Derived.Test.YtkojjjdeacdabaaDoorPx1
import Derived.Test.YtkojjjdeacdabaaDoorPx2
import Derived.Test.YtkojjjdeacdabaaDoorPx5
import Derived.Test.YtkojjjdeacdabaaDoorPx6
namespace Go.Proofs.YtkojjjdeacdabaaDoor.P
open Go.RowKit Go.Proofs.YtkojjjdeacdabaaDoorW.PrintWords Go.Proofs.YtkojjjdeacdabaaDoorW.PrintLast Go.Proofs.YtkojjjdeacdabaaDoorW.PrintMore
attribute [local go_sem] max2_int min2_int max_two min_two max_three min_three max_four min_four   -- for this text's walks alone
set_option linter.unusedVariables false
set_option linter.unusedSimpArgs false

attribute [local go_sem high] eqA24
/-! ### insn_Encode: function 19 -/
def insn_Encode.f (a0_0 : Int) (a0_1 : Int) (a0_2 : Int) (a0_3 : Int) (a0_4 : Int) : Option (List Int × Int) := if a0_1 > 15 then (some (([] : List Int), 21)) else (if a0_2 > 15 then (some (([] : List Int), 21)) else (some ((([a0_0, Go.bits .or .u8 a0_1 ((a0_2 * 16) % 256), (IntKind.u16.wrap (a0_3)) % 256, ((IntKind.u16.wrap (a0_3)) / 256) % 256, ((a0_4) % 4294967296) % 256, (((a0_4) % 4294967296) / 256) % 256, (((a0_4) % 4294967296) / 65536) % 256, ((a0_4) % 4294967296) / 16777216] : List Int)), 0)))
set_option maxHeartbeats 8000000 in
set_option maxRecDepth 100000 in
theorem insn_Encode.calls (a0_0 : Int) (a0_1 : Int) (a0_2 : Int) (a0_3 : Int) (a0_4 : Int) (r1 : List Int) (r2 : Int) (w : World) (h : insn_Encode.f a0_0 a0_1 a0_2 a0_3 a0_4 = some (r1, r2)) :
  Calls Tryd.prog 19 #[.agg #[.int .u8 a0_0, .int .u8 a0_1, .int .u8 a0_2, .int .i16 a0_3, .int .i32 a0_4]] w fun e w' => ∃ v0_ : Value, e = .returned (.tuple #[v0_, .int .i64 r2]) ∧ Kd.R (Kd.int .u8) 5 w' w.heap.size (fun _ => True) v0_ r1 ∧ Below w.heap.size w w' := by
 have hu24 := Tryd.underlying24
 have HB := Aside0.mk (Below.refl w.heap.size w)
 have H : (if a0_1 > 15 then (some (([] : List Int), 21)) else (if a0_2 > 15 then (some (([] : List Int), 21)) else (some ((([a0_0, Go.bits .or .u8 a0_1 ((a0_2 * 16) % 256), (IntKind.u16.wrap (a0_3)) % 256, ((IntKind.u16.wrap (a0_3)) / 256) % 256, ((a0_4) % 4294967296) % 256, (((a0_4) % 4294967296) / 256) % 256, (((a0_4) % 4294967296) / 65536) % 256, ((a0_4) % 4294967296) / 16777216] : List Int)), 0)))) = some (r1, r2) := h
 clear h
 by_cases c2 : a0_1 > 15
 ·rw [if_pos c2] at H
  have c2b0 : decide (15 < a0_1) = true := decide_eq_true c2
  clear c2
  simp only [Option.some.injEq, Prod.mk.injEq] at H
  obtain ⟨rfl, rfl⟩ := H
  go_enter Tryd.func19, Tryd.ntmps19
  go_wp2_with (first | ((with_reducible refine gate_dst (N := 1) rfl ?_); refine sh_box 1 #[.int .u8 a0_0, .int .u8 a0_1, .int .u8 a0_2, .int .i16 a0_3, .int .i32 a0_4] 24 ?_; intro gb342 hg w3 hbox hb; have GE342 := sh_z (w := w) hg; replace HB := sh_b (w := w) hb; have BK342 := Aside0.mk (hbox); clear hb hbox hg; have hcz4 := blk_all5 BK342.out))
  go_ret2
  exact ⟨_, ret_now, by first | exact Kd.R_nil _ _ _ _ _ | exact Kd.N_nil _ _ _ _ _ | exact Kd.V_nil _ _ _ _ _ | exact Kd.Q_nil _ _ _ _ _ | exact Kd.S_nil _ _ _ _ _, b_now⟩
 ·rw [if_neg c2] at H
  have c2b0 : decide (15 < a0_1) = false := decide_eq_false c2
  clear c2
  by_cases c5 : a0_2 > 15
  ·rw [if_pos c5] at H
   have c5b0 : decide (15 < a0_2) = true := decide_eq_true c5
   clear c5
   simp only [Option.some.injEq, Prod.mk.injEq] at H
   obtain ⟨rfl, rfl⟩ := H
   go_enter Tryd.func19, Tryd.ntmps19
   go_wp2_with (first | ((with_reducible refine gate_dst (N := 1) rfl ?_); refine sh_box 1 #[.int .u8 a0_0, .int .u8 a0_1, .int .u8 a0_2, .int .i16 a0_3, .int .i32 a0_4] 24 ?_; intro gb342 hg w6 hbox hb; have GE342 := sh_z (w := w) hg; replace HB := sh_b (w := w) hb; have BK342 := Aside0.mk (hbox); clear hb hbox hg; have hcz7 := blk_all5 BK342.out))
   go_ret2
   exact ⟨_, ret_now, by first | exact Kd.R_nil _ _ _ _ _ | exact Kd.N_nil _ _ _ _ _ | exact Kd.V_nil _ _ _ _ _ | exact Kd.Q_nil _ _ _ _ _ | exact Kd.S_nil _ _ _ _ _, b_now⟩
  ·rw [if_neg c5] at H
   have c5b0 : decide (15 < a0_2) = false := decide_eq_false c5
   clear c5
   obtain ⟨y343, hy343⟩ : ∃ y_ : List Int, y_ = (([a0_0, Go.bits .or .u8 a0_1 ((a0_2 * 16) % 256), (IntKind.u16.wrap (a0_3)) % 256, ((IntKind.u16.wrap (a0_3)) / 256) % 256, ((a0_4) % 4294967296) % 256, (((a0_4) % 4294967296) / 256) % 256, (((a0_4) % 4294967296) / 65536) % 256, ((a0_4) % 4294967296) / 16777216] : List Int)) := ⟨_, rfl⟩
   replace H : (some (y343, 0)) = some (r1, r2) := by first | (rw [hy343]; with_reducible exact H) | (have H2_ := (Option.bind_some _ _).symm.trans H; rw [hy343]; with_reducible exact H2_) | (have H2_ := (Option.bind_some _ _).symm.trans H; with_reducible exact H2_) | with_reducible exact H | (rw [hy343]; exact H) | exact H
   have Ny343 := Aside0.mk hy343
   clear hy343
   simp only [Option.some.injEq, Prod.mk.injEq] at H
   obtain ⟨rfl, rfl⟩ := H
   go_enter Tryd.func19, Tryd.ntmps19
   go_wp2_with (first | ((with_reducible refine gate_dst (N := 1) rfl ?_); refine sh_box 1 #[.int .u8 a0_0, .int .u8 a0_1, .int .u8 a0_2, .int .i16 a0_3, .int .i32 a0_4] 24 ?_; intro gb342 hg w8 hbox hb; have GE342 := sh_z (w := w) hg; replace HB := sh_b (w := w) hb; have BK342 := Aside0.mk (hbox); clear hb hbox hg; have hcz9 := blk_all5 BK342.out) | ((with_reducible refine gate_dst (N := 44) rfl ?_); refine Kd.R_lit (Kd.int .u8) _ 5 ?hg (N := 44) ?hd (xs := ([a0_0, Go.bits .or .u8 a0_1 ((a0_2 * 16) % 256), (IntKind.u16.wrap (a0_3)) % 256, ((IntKind.u16.wrap (a0_3)) / 256) % 256, ((a0_4) % 4294967296) % 256, (((a0_4) % 4294967296) / 256) % 256, (((a0_4) % 4294967296) / 65536) % 256, ((a0_4) % 4294967296) / 16777216] : List Int)) (inner := [.int .u8 a0_0, .int .u8 (Go.bits .or .u8 a0_1 ((a0_2 * 16) % 256)), .int .u8 ((IntKind.u16.wrap (a0_3)) % 256), .int .u8 (((IntKind.u16.wrap (a0_3)) / 256) % 256), .int .u8 (((a0_4) % 4294967296) % 256), .int .u8 ((((a0_4) % 4294967296) / 256) % 256), .int .u8 ((((a0_4) % 4294967296) / 65536) % 256), .int .u8 (((a0_4) % 4294967296) / 16777216)]) (ok := fun _ => True) (okp := fun _ => True) ?hr ?hp (fun _ hk => hk) trivial (Below.refl _ _) (Nat.le_refl _) (by simp) ?_; (case hd => rfl); (case hg => rfl); (case hr => first | (go_simp; done) | (go_simp; rfl)); (case hp => exact (Reps.one (show Kd.M (Kd.int .u8) _ _ _ a0_0 [.int .u8 a0_0] from rfl) (Reps.one (show Kd.M (Kd.int .u8) _ _ _ (Go.bits .or .u8 a0_1 ((a0_2 * 16) % 256)) [.int .u8 (Go.bits .or .u8 a0_1 ((a0_2 * 16) % 256))] from rfl) (Reps.one (show Kd.M (Kd.int .u8) _ _ _ ((IntKind.u16.wrap (a0_3)) % 256) [.int .u8 ((IntKind.u16.wrap (a0_3)) % 256)] from rfl) (Reps.one (show Kd.M (Kd.int .u8) _ _ _ (((IntKind.u16.wrap (a0_3)) / 256) % 256) [.int .u8 (((IntKind.u16.wrap (a0_3)) / 256) % 256)] from rfl) (Reps.one (show Kd.M (Kd.int .u8) _ _ _ (((a0_4) % 4294967296) % 256) [.int .u8 (((a0_4) % 4294967296) % 256)] from rfl) (Reps.one (show Kd.M (Kd.int .u8) _ _ _ ((((a0_4) % 4294967296) / 256) % 256) [.int .u8 ((((a0_4) % 4294967296) / 256) % 256)] from rfl) (Reps.one (show Kd.M (Kd.int .u8) _ _ _ ((((a0_4) % 4294967296) / 65536) % 256) [.int .u8 ((((a0_4) % 4294967296) / 65536) % 256)] from rfl) (Reps.one (show Kd.M (Kd.int .u8) _ _ _ (((a0_4) % 4294967296) / 16777216) [.int .u8 (((a0_4) % 4294967296) / 16777216)] from rfl) (Reps.none _ _)))))))))); intro v344 w10 ho11 hb hg_ hnew_; clear hg_ hnew_; (first | rw [← Ny343.out] at ho11 | (simp only [Int.reduceToNat] at ho11; rw [← Ny343.out] at ho11)); have HO345 := Aside0.mk (Kd.R_lower ho11 (below_size b_now)); replace BK342 := sh_k BK342 hb; replace HB := sh_b (w := w) hb; clear hb ho11))
   go_ret2
   exact ⟨_, ret_now, by (with_reducible repeat (first | apply Kd.R_alloc | apply Kd.R_drewN | apply Kd.R_drew)); exact HO345.out, b_now⟩

/-! ### insn_Writes: function 26 -/
def insn_Writes.f (k : Nat) (a0_0 : Int) (a0_1 : Int) (a0_2 : Int) (a0_3 : Int) (a0_4 : Int) : Option (Int) := (insn_Of.f k a0_0 a0_1 a0_2 a0_3 a0_4).bind fun bt533 => (if bt533.2.2.2.2.2 = 0 then (if bt533.1 = 8 then (some 0) else ((insn_fields.f k bt533.1 bt533.2.1 bt533.2.2.1 bt533.2.2.2.1 bt533.2.2.2.2.1).bind fun bt540 => (if bt540.2.1 = true then (some (wrap64 (a0_1))) else (some (-1))))) else (some (-1)))
theorem insn_Writes.mono : ∀ a0 a1 a2 a3 a4 k, LeO (insn_Writes.f k a0 a1 a2 a3 a4) (insn_Writes.f (k + 1) a0 a1 a2 a3 a4) := by
 intro a0 a1 a2 a3 a4 k
 unfold insn_Writes.f
 repeat' first
   | (with_reducible exact insn_Of.mono _ _ _ _ _ _)
   | (with_reducible exact insn_fields.mono _ _ _ _ _ _)
   | (with_reducible exact LeO.refl _)
   | (with_reducible exact LeO.none _)
   | (with_reducible refine LeO.ite ?_ ?_)
   | (with_reducible refine LeO.bind ?_ (fun _ => ?_))
   | exact insn_Of.mono _ _ _ _ _ _
   | exact insn_fields.mono _ _ _ _ _ _
   | exact LeO.none _
   | refine LeO.ite ?_ ?_
   | refine LeO.bind ?_ (fun _ => ?_)
set_option maxHeartbeats 8000000 in
set_option maxRecDepth 100000 in
theorem insn_Writes.calls (k : Nat) (a0_0 : Int) (a0_1 : Int) (a0_2 : Int) (a0_3 : Int) (a0_4 : Int) (r : Int) (w : World) (hrG0 : Kd.C (Kd.int .i64) w (some ⟨0, 0, none⟩) gl0.length gl0) (h : insn_Writes.f k a0_0 a0_1 a0_2 a0_3 a0_4 = some r) :
  Calls Tryd.prog 26 #[.agg #[.int .u8 a0_0, .int .u8 a0_1, .int .u8 a0_2, .int .i16 a0_3, .int .i32 a0_4]] w fun e w' => e = .returned (.int .i64 r) ∧ Below w.heap.size w w' := by
 have hu24 := Tryd.underlying24
 have hu26 := Tryd.underlying26
 have hu62 := Tryd.underlying62
 have fd62_1 : ∀ (W_ : World) (v0 v1 v2 v3 v4 : Value), (Instr.field 62 (.agg #[v0, v1, v2, v3, v4]) 1).run Tryd.prog W_ = .ok v1 W_ := by intros; kernel_rfl
 have HRG0 := Aside0.mk hrG0
 clear hrG0
 have HB := Aside0.mk (Below.refl w.heap.size w)
 have H : ((insn_Of.f k a0_0 a0_1 a0_2 a0_3 a0_4).bind fun bt533 => (if bt533.2.2.2.2.2 = 0 then (if bt533.1 = 8 then (some 0) else ((insn_fields.f k bt533.1 bt533.2.1 bt533.2.2.1 bt533.2.2.2.1 bt533.2.2.2.2.1).bind fun bt540 => (if bt540.2.1 = true then (some (wrap64 (a0_1))) else (some (-1))))) else (some (-1)))) = some r := h
 clear h
 replace H := Option.bind_eq_some_iff.mp H; obtain ⟨⟨t533, t534, t535, t536, t537, t538⟩, A20, H⟩ := H; try dsimp only at H
 have A2 := Aside0.mk A20
 clear A20
 by_cases c3 : t538 = 0
 ·rw [if_pos c3] at H
  have c3b0 : (t538 == 0) = true := beq_iff_eq.mpr c3
  have c3b1 : (t538 != 0) = false := bne_eq_false_iff_eq.mpr c3
  clear c3
  by_cases c4 : t533 = 8
  ·rw [if_pos c4] at H
   have c4b0 : (t533 == 8) = true := beq_iff_eq.mpr c4
   have c4b1 : (t533 != 8) = false := bne_eq_false_iff_eq.mpr c4
   clear c4
   obtain rfl := Option.some.inj H
   go_enter Tryd.func26, Tryd.ntmps26
   go_wp2_with (first | ((with_reducible refine gate_dst (N := 1) rfl ?_); refine sh_box 1 #[.int .u8 a0_0, .int .u8 a0_1, .int .u8 a0_2, .int .i16 a0_3, .int .i32 a0_4] 24 ?_; intro gb532 hg w5 hbox hb; have GE532 := sh_z (w := w) hg; replace HB := sh_b (w := w) hb; have BK532 := Aside0.mk (hbox); clear hb hbox hg; have hcz6 := blk_all5 BK532.out) | ((with_reducible refine gate_callee (f := 12) rfl ?_); refine sh_call (some 7) Tryd.func12 #[.agg #[.int .u8 a0_0, .int .u8 a0_1, .int .u8 a0_2, .int .i16 a0_3, .int .i32 a0_4]] ?_; (with_reducible refine (insn_Of.calls k a0_0 a0_1 a0_2 a0_3 a0_4 t533 t534 t535 t536 t537 t538 _ ?side1 A2.out).mono ?_); (case side1 => repeat (first | exact (Kd.C_below HRG0.out HB.out) | (with_reducible refine Kd.C_alloc ?_ _) | (with_reducible refine Kd.C_drewN ?_ _) | (with_reducible refine Kd.C_drew ?_))); rintro e w7 ⟨rfl, hb⟩; refine ⟨_, rfl, ?_⟩; replace BK532 := sh_k BK532 hb; replace HB := sh_b (w := w) hb; (try clear hb); (try clear hb2); (try clear hk); (try clear hi)) | ((with_reducible refine gate_dst (N := 3) rfl ?_); refine sh_box 3 #[.int .i64 0, .int .i64 0, .int .i64 0, .bool false, .bool false] 26 ?_; intro gb539 hg w8 hbox hb; have GE539 := sh_z (w := w) hg; have NB532_539 := sh_n BK532 hg; have NB539_532 := sh_s NB532_539; replace BK532 := sh_k BK532 hb; replace HB := sh_b (w := w) hb; have BK539 := Aside0.mk (hbox); clear hb hbox hg; have hnb9 := NB539_532.out; have hnc9 := NB532_539.out; have hcz10 := blk_all5 BK539.out))
   go_ret
   exact ⟨ret_now, b_now⟩
  ·rw [if_neg c4] at H
   have c4b0 : (t533 == 8) = false := beq_eq_false_iff_ne.mpr c4
   have c4b1 : (t533 != 8) = true := bne_iff_ne.mpr c4
   replace H := Option.bind_eq_some_iff.mp H; obtain ⟨⟨t540, t541, t542, t543, t544⟩, A110, H⟩ := H; try dsimp only at H
   have A11 := Aside0.mk A110
   clear A110
   by_cases c12 : t541 = true
   ·subst c12
    replace H := sh_t H
    obtain rfl := Option.some.inj H
    go_enter Tryd.func26, Tryd.ntmps26
    go_wp2_with (first | ((with_reducible refine gate_dst (N := 1) rfl ?_); refine sh_box 1 #[.int .u8 a0_0, .int .u8 a0_1, .int .u8 a0_2, .int .i16 a0_3, .int .i32 a0_4] 24 ?_; intro gb532 hg w13 hbox hb; have GE532 := sh_z (w := w) hg; replace HB := sh_b (w := w) hb; have BK532 := Aside0.mk (hbox); clear hb hbox hg; have hcz14 := blk_all5 BK532.out) | ((with_reducible refine gate_callee (f := 12) rfl ?_); refine sh_call (some 7) Tryd.func12 #[.agg #[.int .u8 a0_0, .int .u8 a0_1, .int .u8 a0_2, .int .i16 a0_3, .int .i32 a0_4]] ?_; (with_reducible refine (insn_Of.calls k a0_0 a0_1 a0_2 a0_3 a0_4 t533 t534 t535 t536 t537 t538 _ ?side1 A2.out).mono ?_); (case side1 => repeat (first | exact (Kd.C_below HRG0.out HB.out) | (with_reducible refine Kd.C_alloc ?_ _) | (with_reducible refine Kd.C_drewN ?_ _) | (with_reducible refine Kd.C_drew ?_))); rintro e w15 ⟨rfl, hb⟩; refine ⟨_, rfl, ?_⟩; replace BK532 := sh_k BK532 hb; replace HB := sh_b (w := w) hb; (try clear hb); (try clear hb2); (try clear hk); (try clear hi)) | ((with_reducible refine gate_dst (N := 3) rfl ?_); refine sh_box 3 #[.int .i64 0, .int .i64 0, .int .i64 0, .bool false, .bool false] 26 ?_; intro gb539 hg w16 hbox hb; have GE539 := sh_z (w := w) hg; have NB532_539 := sh_n BK532 hg; have NB539_532 := sh_s NB532_539; replace BK532 := sh_k BK532 hb; replace HB := sh_b (w := w) hb; have BK539 := Aside0.mk (hbox); clear hb hbox hg; have hnb17 := NB539_532.out; have hnc17 := NB532_539.out; have hcz18 := blk_all5 BK539.out) | ((with_reducible refine gate_callee (f := 31) rfl ?_); refine sh_call (some 19) Tryd.func31 #[.agg #[.int .i64 t533, .int .i64 t534, .int .i64 t535, .bool t536, .bool t537]] ?_; (with_reducible refine (insn_fields.calls k t533 t534 t535 t536 t537 t540 true t542 t543 t544 _ A11.out).mono ?_); rintro e w19 ⟨rfl, hb⟩; refine ⟨_, rfl, ?_⟩; replace BK532 := sh_kp (g := gb532) (t := 24) #[.int .u8 a0_0, .int .u8 a0_1, .int .u8 a0_2, .int .i16 a0_3, .int .i32 a0_4] hb; replace BK539 := sh_kp (g := gb539) (t := 26) #[.int .i64 t533, .int .i64 t534, .int .i64 t535, .bool t536, .bool t537] hb; replace HB := sh_b (w := w) hb; (try clear hb); (try clear hb2); (try clear hk); (try clear hi); have hcz20 := blk_all5 BK532.out))
    go_ret
    exact ⟨ret_now, b_now⟩
   ·replace c12 := Bool.eq_false_iff.mpr c12
    subst c12
    replace H := sh_f H
    obtain rfl := Option.some.inj H
    go_enter Tryd.func26, Tryd.ntmps26
    go_wp2_with (first | ((with_reducible refine gate_dst (N := 1) rfl ?_); refine sh_box 1 #[.int .u8 a0_0, .int .u8 a0_1, .int .u8 a0_2, .int .i16 a0_3, .int .i32 a0_4] 24 ?_; intro gb532 hg w21 hbox hb; have GE532 := sh_z (w := w) hg; replace HB := sh_b (w := w) hb; have BK532 := Aside0.mk (hbox); clear hb hbox hg; have hcz22 := blk_all5 BK532.out) | ((with_reducible refine gate_callee (f := 12) rfl ?_); refine sh_call (some 7) Tryd.func12 #[.agg #[.int .u8 a0_0, .int .u8 a0_1, .int .u8 a0_2, .int .i16 a0_3, .int .i32 a0_4]] ?_; (with_reducible refine (insn_Of.calls k a0_0 a0_1 a0_2 a0_3 a0_4 t533 t534 t535 t536 t537 t538 _ ?side1 A2.out).mono ?_); (case side1 => repeat (first | exact (Kd.C_below HRG0.out HB.out) | (with_reducible refine Kd.C_alloc ?_ _) | (with_reducible refine Kd.C_drewN ?_ _) | (with_reducible refine Kd.C_drew ?_))); rintro e w23 ⟨rfl, hb⟩; refine ⟨_, rfl, ?_⟩; replace BK532 := sh_k BK532 hb; replace HB := sh_b (w := w) hb; (try clear hb); (try clear hb2); (try clear hk); (try clear hi)) | ((with_reducible refine gate_dst (N := 3) rfl ?_); refine sh_box 3 #[.int .i64 0, .int .i64 0, .int .i64 0, .bool false, .bool false] 26 ?_; intro gb539 hg w24 hbox hb; have GE539 := sh_z (w := w) hg; have NB532_539 := sh_n BK532 hg; have NB539_532 := sh_s NB532_539; replace BK532 := sh_k BK532 hb; replace HB := sh_b (w := w) hb; have BK539 := Aside0.mk (hbox); clear hb hbox hg; have hnb25 := NB539_532.out; have hnc25 := NB532_539.out; have hcz26 := blk_all5 BK539.out) | ((with_reducible refine gate_callee (f := 31) rfl ?_); refine sh_call (some 19) Tryd.func31 #[.agg #[.int .i64 t533, .int .i64 t534, .int .i64 t535, .bool t536, .bool t537]] ?_; (with_reducible refine (insn_fields.calls k t533 t534 t535 t536 t537 t540 false t542 t543 t544 _ A11.out).mono ?_); rintro e w27 ⟨rfl, hb⟩; refine ⟨_, rfl, ?_⟩; replace BK532 := sh_kp (g := gb532) (t := 24) #[.int .u8 a0_0, .int .u8 a0_1, .int .u8 a0_2, .int .i16 a0_3, .int .i32 a0_4] hb; replace BK539 := sh_kp (g := gb539) (t := 26) #[.int .i64 t533, .int .i64 t534, .int .i64 t535, .bool t536, .bool t537] hb; replace HB := sh_b (w := w) hb; (try clear hb); (try clear hb2); (try clear hk); (try clear hi)))
    go_ret
    exact ⟨ret_now, b_now⟩
 ·rw [if_neg c3] at H
  have c3b0 : (t538 == 0) = false := beq_eq_false_iff_ne.mpr c3
  have c3b1 : (t538 != 0) = true := bne_iff_ne.mpr c3
  obtain rfl := Option.some.inj H
  go_enter Tryd.func26, Tryd.ntmps26
  go_wp2_with (first | ((with_reducible refine gate_dst (N := 1) rfl ?_); refine sh_box 1 #[.int .u8 a0_0, .int .u8 a0_1, .int .u8 a0_2, .int .i16 a0_3, .int .i32 a0_4] 24 ?_; intro gb532 hg w28 hbox hb; have GE532 := sh_z (w := w) hg; replace HB := sh_b (w := w) hb; have BK532 := Aside0.mk (hbox); clear hb hbox hg; have hcz29 := blk_all5 BK532.out) | ((with_reducible refine gate_callee (f := 12) rfl ?_); refine sh_call (some 7) Tryd.func12 #[.agg #[.int .u8 a0_0, .int .u8 a0_1, .int .u8 a0_2, .int .i16 a0_3, .int .i32 a0_4]] ?_; (with_reducible refine (insn_Of.calls k a0_0 a0_1 a0_2 a0_3 a0_4 t533 t534 t535 t536 t537 t538 _ ?side1 A2.out).mono ?_); (case side1 => repeat (first | exact (Kd.C_below HRG0.out HB.out) | (with_reducible refine Kd.C_alloc ?_ _) | (with_reducible refine Kd.C_drewN ?_ _) | (with_reducible refine Kd.C_drew ?_))); rintro e w30 ⟨rfl, hb⟩; refine ⟨_, rfl, ?_⟩; replace BK532 := sh_k BK532 hb; replace HB := sh_b (w := w) hb; (try clear hb); (try clear hb2); (try clear hk); (try clear hi)) | ((with_reducible refine gate_dst (N := 3) rfl ?_); refine sh_box 3 #[.int .i64 0, .int .i64 0, .int .i64 0, .bool false, .bool false] 26 ?_; intro gb539 hg w31 hbox hb; have GE539 := sh_z (w := w) hg; have NB532_539 := sh_n BK532 hg; have NB539_532 := sh_s NB532_539; replace BK532 := sh_k BK532 hb; replace HB := sh_b (w := w) hb; have BK539 := Aside0.mk (hbox); clear hb hbox hg; have hnb32 := NB539_532.out; have hnc32 := NB532_539.out; have hcz33 := blk_all5 BK539.out))
  go_ret
  exact ⟨ret_now, b_now⟩

/-! ### insn_Places: function 28 -/
def insn_Places.f (k : Nat) (a0_0 : Int) (a0_1 : Int) (a0_2 : Int) (a0_3 : Int) (a0_4 : Int) : Option (Int) := (insn_Of.f k a0_0 a0_1 a0_2 a0_3 a0_4).bind fun bt567 => (if bt567.2.2.2.2.2 = 0 then (if bt567.1 = 10 then (some 2) else (if bt567.1 = 11 then (some 2) else (some 1))) else (some 0))
theorem insn_Places.mono : ∀ a0 a1 a2 a3 a4 k, LeO (insn_Places.f k a0 a1 a2 a3 a4) (insn_Places.f (k + 1) a0 a1 a2 a3 a4) := by
 intro a0 a1 a2 a3 a4 k
 unfold insn_Places.f
 repeat' first
   | (with_reducible exact insn_Of.mono _ _ _ _ _ _)
   | (with_reducible exact LeO.refl _)
   | (with_reducible exact LeO.none _)
   | (with_reducible refine LeO.ite ?_ ?_)
   | (with_reducible refine LeO.bind ?_ (fun _ => ?_))
   | exact insn_Of.mono _ _ _ _ _ _
   | exact LeO.none _
   | refine LeO.ite ?_ ?_
   | refine LeO.bind ?_ (fun _ => ?_)
set_option maxHeartbeats 8000000 in
set_option maxRecDepth 100000 in
theorem insn_Places.calls (k : Nat) (a0_0 : Int) (a0_1 : Int) (a0_2 : Int) (a0_3 : Int) (a0_4 : Int) (r : Int) (w : World) (hrG0 : Kd.C (Kd.int .i64) w (some ⟨0, 0, none⟩) gl0.length gl0) (h : insn_Places.f k a0_0 a0_1 a0_2 a0_3 a0_4 = some r) :
  Calls Tryd.prog 28 #[.agg #[.int .u8 a0_0, .int .u8 a0_1, .int .u8 a0_2, .int .i16 a0_3, .int .i32 a0_4]] w fun e w' => e = .returned (.int .i64 r) ∧ Below w.heap.size w w' := by
 have hu24 := Tryd.underlying24
 have hu26 := Tryd.underlying26
 have HRG0 := Aside0.mk hrG0
 clear hrG0
 have HB := Aside0.mk (Below.refl w.heap.size w)
 have H : ((insn_Of.f k a0_0 a0_1 a0_2 a0_3 a0_4).bind fun bt567 => (if bt567.2.2.2.2.2 = 0 then (if bt567.1 = 10 then (some 2) else (if bt567.1 = 11 then (some 2) else (some 1))) else (some 0))) = some r := h
 clear h
 replace H := Option.bind_eq_some_iff.mp H; obtain ⟨⟨t567, t568, t569, t570, t571, t572⟩, A20, H⟩ := H; try dsimp only at H
 have A2 := Aside0.mk A20
 clear A20
 by_cases c3 : t572 = 0
 ·rw [if_pos c3] at H
  have c3b0 : (t572 == 0) = true := beq_iff_eq.mpr c3
  have c3b1 : (t572 != 0) = false := bne_eq_false_iff_eq.mpr c3
  clear c3
  by_cases c4 : t567 = 10
  ·rw [if_pos c4] at H
   have c4b0 : (t567 == 10) = true := beq_iff_eq.mpr c4
   have c4b1 : (t567 != 10) = false := bne_eq_false_iff_eq.mpr c4
   clear c4
   obtain rfl := Option.some.inj H
   go_enter Tryd.func28, Tryd.ntmps28
   go_wp2_with (first | ((with_reducible refine gate_dst (N := 1) rfl ?_); refine sh_box 1 #[.int .u8 a0_0, .int .u8 a0_1, .int .u8 a0_2, .int .i16 a0_3, .int .i32 a0_4] 24 ?_; intro gb566 hg w5 hbox hb; have GE566 := sh_z (w := w) hg; replace HB := sh_b (w := w) hb; have BK566 := Aside0.mk (hbox); clear hb hbox hg; have hcz6 := blk_all5 BK566.out) | ((with_reducible refine gate_callee (f := 12) rfl ?_); refine sh_call (some 7) Tryd.func12 #[.agg #[.int .u8 a0_0, .int .u8 a0_1, .int .u8 a0_2, .int .i16 a0_3, .int .i32 a0_4]] ?_; (with_reducible refine (insn_Of.calls k a0_0 a0_1 a0_2 a0_3 a0_4 t567 t568 t569 t570 t571 t572 _ ?side1 A2.out).mono ?_); (case side1 => repeat (first | exact (Kd.C_below HRG0.out HB.out) | (with_reducible refine Kd.C_alloc ?_ _) | (with_reducible refine Kd.C_drewN ?_ _) | (with_reducible refine Kd.C_drew ?_))); rintro e w7 ⟨rfl, hb⟩; refine ⟨_, rfl, ?_⟩; replace BK566 := sh_k BK566 hb; replace HB := sh_b (w := w) hb; (try clear hb); (try clear hb2); (try clear hk); (try clear hi)) | ((with_reducible refine gate_dst (N := 3) rfl ?_); refine sh_box 3 #[.int .i64 0, .int .i64 0, .int .i64 0, .bool false, .bool false] 26 ?_; intro gb573 hg w8 hbox hb; have GE573 := sh_z (w := w) hg; have NB566_573 := sh_n BK566 hg; have NB573_566 := sh_s NB566_573; replace BK566 := sh_k BK566 hb; replace HB := sh_b (w := w) hb; have BK573 := Aside0.mk (hbox); clear hb hbox hg; have hnb9 := NB573_566.out; have hnc9 := NB566_573.out; have hcz10 := blk_all5 BK573.out))
   go_ret
   exact ⟨ret_now, b_now⟩
  ·rw [if_neg c4] at H
   have c4b0 : (t567 == 10) = false := beq_eq_false_iff_ne.mpr c4
   have c4b1 : (t567 != 10) = true := bne_iff_ne.mpr c4
   by_cases c11 : t567 = 11
   ·rw [if_pos c11] at H
    have c11b0 : (t567 == 11) = true := beq_iff_eq.mpr c11
    have c11b1 : (t567 != 11) = false := bne_eq_false_iff_eq.mpr c11
    clear c11
    obtain rfl := Option.some.inj H
    go_enter Tryd.func28, Tryd.ntmps28
    go_wp2_with (first | ((with_reducible refine gate_dst (N := 1) rfl ?_); refine sh_box 1 #[.int .u8 a0_0, .int .u8 a0_1, .int .u8 a0_2, .int .i16 a0_3, .int .i32 a0_4] 24 ?_; intro gb566 hg w12 hbox hb; have GE566 := sh_z (w := w) hg; replace HB := sh_b (w := w) hb; have BK566 := Aside0.mk (hbox); clear hb hbox hg; have hcz13 := blk_all5 BK566.out) | ((with_reducible refine gate_callee (f := 12) rfl ?_); refine sh_call (some 7) Tryd.func12 #[.agg #[.int .u8 a0_0, .int .u8 a0_1, .int .u8 a0_2, .int .i16 a0_3, .int .i32 a0_4]] ?_; (with_reducible refine (insn_Of.calls k a0_0 a0_1 a0_2 a0_3 a0_4 t567 t568 t569 t570 t571 t572 _ ?side1 A2.out).mono ?_); (case side1 => repeat (first | exact (Kd.C_below HRG0.out HB.out) | (with_reducible refine Kd.C_alloc ?_ _) | (with_reducible refine Kd.C_drewN ?_ _) | (with_reducible refine Kd.C_drew ?_))); rintro e w14 ⟨rfl, hb⟩; refine ⟨_, rfl, ?_⟩; replace BK566 := sh_k BK566 hb; replace HB := sh_b (w := w) hb; (try clear hb); (try clear hb2); (try clear hk); (try clear hi)) | ((with_reducible refine gate_dst (N := 3) rfl ?_); refine sh_box 3 #[.int .i64 0, .int .i64 0, .int .i64 0, .bool false, .bool false] 26 ?_; intro gb573 hg w15 hbox hb; have GE573 := sh_z (w := w) hg; have NB566_573 := sh_n BK566 hg; have NB573_566 := sh_s NB566_573; replace BK566 := sh_k BK566 hb; replace HB := sh_b (w := w) hb; have BK573 := Aside0.mk (hbox); clear hb hbox hg; have hnb16 := NB573_566.out; have hnc16 := NB566_573.out; have hcz17 := blk_all5 BK573.out))
    go_ret
    exact ⟨ret_now, b_now⟩
   ·rw [if_neg c11] at H
    have c11b0 : (t567 == 11) = false := beq_eq_false_iff_ne.mpr c11
    have c11b1 : (t567 != 11) = true := bne_iff_ne.mpr c11
    obtain rfl := Option.some.inj H
    go_enter Tryd.func28, Tryd.ntmps28
    go_wp2_with (first | ((with_reducible refine gate_dst (N := 1) rfl ?_); refine sh_box 1 #[.int .u8 a0_0, .int .u8 a0_1, .int .u8 a0_2, .int .i16 a0_3, .int .i32 a0_4] 24 ?_; intro gb566 hg w18 hbox hb; have GE566 := sh_z (w := w) hg; replace HB := sh_b (w := w) hb; have BK566 := Aside0.mk (hbox); clear hb hbox hg; have hcz19 := blk_all5 BK566.out) | ((with_reducible refine gate_callee (f := 12) rfl ?_); refine sh_call (some 7) Tryd.func12 #[.agg #[.int .u8 a0_0, .int .u8 a0_1, .int .u8 a0_2, .int .i16 a0_3, .int .i32 a0_4]] ?_; (with_reducible refine (insn_Of.calls k a0_0 a0_1 a0_2 a0_3 a0_4 t567 t568 t569 t570 t571 t572 _ ?side1 A2.out).mono ?_); (case side1 => repeat (first | exact (Kd.C_below HRG0.out HB.out) | (with_reducible refine Kd.C_alloc ?_ _) | (with_reducible refine Kd.C_drewN ?_ _) | (with_reducible refine Kd.C_drew ?_))); rintro e w20 ⟨rfl, hb⟩; refine ⟨_, rfl, ?_⟩; replace BK566 := sh_k BK566 hb; replace HB := sh_b (w := w) hb; (try clear hb); (try clear hb2); (try clear hk); (try clear hi)) | ((with_reducible refine gate_dst (N := 3) rfl ?_); refine sh_box 3 #[.int .i64 0, .int .i64 0, .int .i64 0, .bool false, .bool false] 26 ?_; intro gb573 hg w21 hbox hb; have GE573 := sh_z (w := w) hg; have NB566_573 := sh_n BK566 hg; have NB573_566 := sh_s NB566_573; replace BK566 := sh_k BK566 hb; replace HB := sh_b (w := w) hb; have BK573 := Aside0.mk (hbox); clear hb hbox hg; have hnb22 := NB573_566.out; have hnc22 := NB566_573.out; have hcz23 := blk_all5 BK573.out))
    go_ret
    exact ⟨ret_now, b_now⟩
 ·rw [if_neg c3] at H
  have c3b0 : (t572 == 0) = false := beq_eq_false_iff_ne.mpr c3
  have c3b1 : (t572 != 0) = true := bne_iff_ne.mpr c3
  obtain rfl := Option.some.inj H
  go_enter Tryd.func28, Tryd.ntmps28
  go_wp2_with (first | ((with_reducible refine gate_dst (N := 1) rfl ?_); refine sh_box 1 #[.int .u8 a0_0, .int .u8 a0_1, .int .u8 a0_2, .int .i16 a0_3, .int .i32 a0_4] 24 ?_; intro gb566 hg w24 hbox hb; have GE566 := sh_z (w := w) hg; replace HB := sh_b (w := w) hb; have BK566 := Aside0.mk (hbox); clear hb hbox hg; have hcz25 := blk_all5 BK566.out) | ((with_reducible refine gate_callee (f := 12) rfl ?_); refine sh_call (some 7) Tryd.func12 #[.agg #[.int .u8 a0_0, .int .u8 a0_1, .int .u8 a0_2, .int .i16 a0_3, .int .i32 a0_4]] ?_; (with_reducible refine (insn_Of.calls k a0_0 a0_1 a0_2 a0_3 a0_4 t567 t568 t569 t570 t571 t572 _ ?side1 A2.out).mono ?_); (case side1 => repeat (first | exact (Kd.C_below HRG0.out HB.out) | (with_reducible refine Kd.C_alloc ?_ _) | (with_reducible refine Kd.C_drewN ?_ _) | (with_reducible refine Kd.C_drew ?_))); rintro e w26 ⟨rfl, hb⟩; refine ⟨_, rfl, ?_⟩; replace BK566 := sh_k BK566 hb; replace HB := sh_b (w := w) hb; (try clear hb); (try clear hb2); (try clear hk); (try clear hi)) | ((with_reducible refine gate_dst (N := 3) rfl ?_); refine sh_box 3 #[.int .i64 0, .int .i64 0, .int .i64 0, .bool false, .bool false] 26 ?_; intro gb573 hg w27 hbox hb; have GE573 := sh_z (w := w) hg; have NB566_573 := sh_n BK566 hg; have NB573_566 := sh_s NB566_573; replace BK566 := sh_k BK566 hb; replace HB := sh_b (w := w) hb; have BK573 := Aside0.mk (hbox); clear hb hbox hg; have hnb28 := NB573_566.out; have hnc28 := NB566_573.out; have hcz29 := blk_all5 BK573.out))
  go_ret
  exact ⟨ret_now, b_now⟩

end Go.Proofs.YtkojjjdeacdabaaDoor.P
