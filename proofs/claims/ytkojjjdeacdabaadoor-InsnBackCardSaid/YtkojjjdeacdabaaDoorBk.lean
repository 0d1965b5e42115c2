/- Chapter 02: the Go function InsnBack answers true, given what its callees answer (a walk by hand: its second parameter is an array). -/
import Derived.Test.YtkojjjdeacdabaaDoorPx10
import Derived.Test.YtkojjjdeacdabaaDoorPx13
namespace Go.Proofs.YtkojjjdeacdabaaDoor.P
open Go.RowKit Go.Proofs.YtkojjjdeacdabaaDoorW.PrintWords Go.Proofs.YtkojjjdeacdabaaDoorW.PrintLast Go.Proofs.YtkojjjdeacdabaaDoorW.PrintMore
attribute [local go_sem] max2_int min2_int max_two min_two max_three min_three max_four min_four
set_option linter.unusedVariables false
set_option linter.unusedSimpArgs false

attribute [local go_sem high] eqA24
theorem C8 {W : World} {g : Nat} {b0 b1 b2 b3 b4 b5 b6 b7 : Int} (h : W.cell? ⟨g, 0, none⟩ = some (.int .u8 b0) ∧ W.cell? ⟨g, 1, none⟩ = some (.int .u8 b1) ∧ W.cell? ⟨g, 2, none⟩ = some (.int .u8 b2) ∧ W.cell? ⟨g, 3, none⟩ = some (.int .u8 b3) ∧ W.cell? ⟨g, 4, none⟩ = some (.int .u8 b4) ∧ W.cell? ⟨g, 5, none⟩ = some (.int .u8 b5) ∧ W.cell? ⟨g, 6, none⟩ = some (.int .u8 b6) ∧ W.cell? ⟨g, 7, none⟩ = some (.int .u8 b7) ∧ ∀ i, W.frozen? ⟨g, i, none⟩ = false) :
    Kd.C (Kd.int .u8) W (some ⟨g, 0, none⟩) [b0, b1, b2, b3, b4, b5, b6, b7].length [b0, b1, b2, b3, b4, b5, b6, b7] := by
  obtain ⟨h0, h1, h2, h3, h4, h5, h6, h7, -⟩ := h
  refine Kd.C_of_reads (d := (0 : Int)) (h1 := fun _ => rfl) ⟨rfl, by simp, fun _ => ⟨_, rfl, fun j hj => ?_⟩⟩
  match j, hj with
  | 0, _ => exact h0
  | 1, _ => exact h1
  | 2, _ => exact h2
  | 3, _ => exact h3
  | 4, _ => exact h4
  | 5, _ => exact h5
  | 6, _ => exact h6
  | 7, _ => exact h7
  | n + 8, h => exact absurd h (by simp)
set_option maxHeartbeats 800000 in
set_option maxRecDepth 100000 in
theorem stockadelaw02_InsnBack.calls (k : Nat) (a0_0 : Int) (a0_1 : Int) (a0_2 : Int) (a0_3 : Int) (a0_4 : Int) (b0 b1 b2 b3 b4 b5 b6 b7 : Int) (k0 k1 k2 k3 k4 : Int) (l : List Int) (w : World) (hrG0 : Kd.C (Kd.int .i64) w (some ⟨0, 0, none⟩) gl0.length gl0)
  (hD : insn_Decode.f [b0, b1, b2, b3, b4, b5, b6, b7] = some (k0, k1, k2, k3, k4, 0)) (hF : insn_Encode.f k0 k1 k2 k3 k4 = some ([b0, b1, b2, b3, b4, b5, b6, b7], 0)) (hS : stockadelaw02_same.f k [b0, b1, b2, b3, b4, b5, b6, b7] [b0, b1, b2, b3, b4, b5, b6, b7] = some true) (hW : stockadelaw02_wakes.f k = some true)
  (hE : insn_Encode.f a0_0 a0_1 a0_2 a0_3 a0_4 = some (l, 0)) (hd : a0_1 < 16) (hs : a0_2 < 16) (hK : insn_Decode.f l = some (a0_0, a0_1, a0_2, a0_3, a0_4, 0)) :
  Calls Tryd.prog 6 #[.agg #[.int .u8 a0_0, .int .u8 a0_1, .int .u8 a0_2, .int .i16 a0_3, .int .i32 a0_4], .agg #[.int .u8 b0, .int .u8 b1, .int .u8 b2, .int .u8 b3, .int .u8 b4, .int .u8 b5, .int .u8 b6, .int .u8 b7]] w fun e w' => e = .returned (.bool true) ∧ Below w.heap.size w w' := by
  have hu24 := Tryd.underlying24
  have hu47 := Tryd.underlying47
  have HRG0 := Aside0.mk hrG0
  clear hrG0
  have HB := Aside0.mk (Below.refl w.heap.size w)
  replace hD := Aside0.mk hD
  replace hF := Aside0.mk hF
  replace hS := Aside0.mk hS
  replace hW := Aside0.mk hW
  replace hE := Aside0.mk hE
  replace hK := Aside0.mk hK
  go_enter Tryd.func6, Tryd.ntmps6
  go_upto_region 8 with (first
    | ((with_reducible refine gate_dst (N := 2) rfl ?_); refine sh_box 2 #[.int .u8 a0_0, .int .u8 a0_1, .int .u8 a0_2, .int .i16 a0_3, .int .i32 a0_4] 24 ?_; intro g2 hg w1 hbox hb; have GE2 := sh_z (w := w) hg; replace HB := sh_b (w := w) hb; have BK2 := Aside0.mk (hbox); clear hb hbox hg; have hcz2 := blk_all5 BK2.out)
    | ((with_reducible refine gate_dst (N := 3) rfl ?_); refine sh_box 3 #[.int .u8 b0, .int .u8 b1, .int .u8 b2, .int .u8 b3, .int .u8 b4, .int .u8 b5, .int .u8 b6, .int .u8 b7] 47 ?_; intro g3 hg w2 hbox hb; have GE3 := sh_z (w := w) hg; have NB2_3 := sh_n BK2 hg; have NB3_2 := sh_s NB2_3; replace BK2 := sh_k BK2 hb; replace HB := sh_b (w := w) hb; have BK3 := Aside0.mk (hbox); clear hb hbox hg; have hnb2 := NB2_3.out; have hnc2 := NB3_2.out; have hcz3 := blk_all8 BK3.out; have hcz2 := blk_all5 BK2.out)
    | (go_at_call 19; (with_reducible refine (insn_Encode.calls a0_0 a0_1 a0_2 a0_3 a0_4 l 0 _ hE.out).mono ?_); rintro e w3 ⟨v0, rfl, ho, hb⟩; have HO := Aside0.mk ho; replace BK2 := sh_k BK2 hb; replace BK3 := sh_k BK3 hb; replace HB := sh_b (w := w) hb; clear ho hb; have hcz2 := blk_all5 BK2.out; have hcz3 := blk_all8 BK3.out; obtain ⟨Ao, co, eo⟩ := Kd.R_slice HO.out; subst eo)
    | (go_at_call 16; (with_reducible refine (insn_Decode.calls _ _ l a0_0 a0_1 a0_2 a0_3 a0_4 0 _ ?side1 ?side2 hK.out).mono ?_); (case side1 => exact (Kd.R_reads' HO.out).2.2); (case side2 => exact (Kd.R_reads' HO.out).2.1); rintro e w4 ⟨rfl, hb⟩; replace BK2 := sh_k BK2 hb; replace BK3 := sh_k BK3 hb; replace HB := sh_b (w := w) hb; clear HO hb; have hcz2 := blk_all5 BK2.out; have hcz3 := blk_all8 BK3.out)
    | ((with_reducible refine gate_dst (N := 7) rfl ?_); refine sh_box 7 #[.int .u8 0, .int .u8 0, .int .u8 0, .int .i16 0, .int .i32 0] 24 ?_; intro g7 hg w5 hbox hb; have GE7 := sh_z (w := w) hg; have NB2_7 := sh_n BK2 hg; have NB7_2 := sh_s NB2_7; have NB3_7 := sh_n BK3 hg; have NB7_3 := sh_s NB3_7; replace BK2 := sh_k BK2 hb; replace BK3 := sh_k BK3 hb; replace HB := sh_b (w := w) hb; have BK7 := Aside0.mk (hbox); clear hb hbox hg; have hnb7 := NB2_7.out; have hnc7 := NB7_2.out; have hnb8 := NB3_7.out; have hnc8 := NB7_3.out; have hcz7 := blk_all5 BK7.out; have hcz2 := blk_all5 BK2.out))
  go_wp2_with (first
    | (go_at_call 16; (refine (insn_Decode.calls (some ⟨g3, 0, none⟩) 8 [b0, b1, b2, b3, b4, b5, b6, b7] k0 k1 k2 k3 k4 0 _ ?side1 ?side2 hD.out).mono ?_); (case side1 => exact C8 (blk_all8 bk_now)); (case side2 => simp); rintro e w6 ⟨rfl, hb⟩; replace BK2 := sh_kp (g := g2) (t := 24) #[.int .u8 a0_0, .int .u8 a0_1, .int .u8 a0_2, .int .i16 a0_3, .int .i32 a0_4] hb; replace BK3 := sh_kp (g := g3) (t := 47) #[.int .u8 b0, .int .u8 b1, .int .u8 b2, .int .u8 b3, .int .u8 b4, .int .u8 b5, .int .u8 b6, .int .u8 b7] hb; replace HB := sh_b (w := w) hb; clear hb; have hcz3 := blk_all8 BK3.out)
    | ((with_reducible refine gate_dst (N := 9) rfl ?_); refine sh_box 9 #[.int .u8 0, .int .u8 0, .int .u8 0, .int .i16 0, .int .i32 0] 24 ?_; intro g9 hg w7 hbox hb; have GE9 := sh_z (w := w) hg; have NB2_9 := sh_n BK2 hg; have NB9_2 := sh_s NB2_9; have NB3_9 := sh_n BK3 hg; have NB9_3 := sh_s NB3_9; replace BK2 := sh_k BK2 hb; replace BK3 := sh_k BK3 hb; replace HB := sh_b (w := w) hb; have BK9 := Aside0.mk (hbox); clear hb hbox hg; have hnb9 := NB2_9.out; have hnc9 := NB9_2.out; have hnb10 := NB3_9.out; have hnc10 := NB9_3.out; have hcz9 := blk_all5 BK9.out; have hcz3 := blk_all8 BK3.out)
    | (go_at_call 19; (with_reducible refine (insn_Encode.calls k0 k1 k2 k3 k4 [b0, b1, b2, b3, b4, b5, b6, b7] 0 _ hF.out).mono ?_); rintro e w8 ⟨v0, rfl, ho, hb⟩; have HO := Aside0.mk ho; replace BK3 := sh_kp (g := g3) (t := 47) #[.int .u8 b0, .int .u8 b1, .int .u8 b2, .int .u8 b3, .int .u8 b4, .int .u8 b5, .int .u8 b6, .int .u8 b7] hb; replace HB := sh_b (w := w) hb; clear ho hb; have hcz3 := blk_all8 BK3.out; obtain ⟨Ap, cp, ep⟩ := Kd.R_slice HO.out; subst ep)
    | (go_at_call 18; (refine (stockadelaw02_same.calls k _ _ [b0, b1, b2, b3, b4, b5, b6, b7] (some ⟨g3, 0, none⟩) 8 [b0, b1, b2, b3, b4, b5, b6, b7] true _ ?side1 ?side2 ?side3 ?side4 hS.out).mono ?_); (case side1 => exact (Kd.R_reads' HO.out).2.2); (case side2 => exact (Kd.R_reads' HO.out).2.1); (case side3 => exact C8 (blk_all8 bk_now)); (case side4 => simp); rintro e w' ⟨rfl, ⟨nd, rfl⟩⟩)
    | (go_at_call 15; (with_reducible refine (stockadelaw02_wakes.calls k true _ ?side1 rfl hW.out).mono ?_); (case side1 => exact Kd.C_below HRG0.out b_now); rintro e w9 ⟨rfl, hb⟩; replace HB := sh_b (w := w) hb; clear hb))
  go_ret
  exact ⟨ret_now, b_now⟩
set_option maxHeartbeats 800000 in
set_option maxRecDepth 100000 in
theorem stockadelaw02_InsnBack.calls2 (k : Nat) (a0_0 : Int) (a0_1 : Int) (a0_2 : Int) (a0_3 : Int) (a0_4 : Int) (b0 b1 b2 b3 b4 b5 b6 b7 : Int) (k0 k1 k2 k3 k4 : Int) (l : List Int) (w : World) (hrG0 : Kd.C (Kd.int .i64) w (some ⟨0, 0, none⟩) gl0.length gl0)
  (hD : insn_Decode.f [b0, b1, b2, b3, b4, b5, b6, b7] = some (k0, k1, k2, k3, k4, 0)) (hF : insn_Encode.f k0 k1 k2 k3 k4 = some ([b0, b1, b2, b3, b4, b5, b6, b7], 0)) (hS : stockadelaw02_same.f k [b0, b1, b2, b3, b4, b5, b6, b7] [b0, b1, b2, b3, b4, b5, b6, b7] = some true) (hW : stockadelaw02_wakes.f k = some true)
  (hE : insn_Encode.f a0_0 a0_1 a0_2 a0_3 a0_4 = some (l, 21)) (hds : ¬ a0_1 < 16 ∨ a0_1 < 16 ∧ ¬ a0_2 < 16) :
  Calls Tryd.prog 6 #[.agg #[.int .u8 a0_0, .int .u8 a0_1, .int .u8 a0_2, .int .i16 a0_3, .int .i32 a0_4], .agg #[.int .u8 b0, .int .u8 b1, .int .u8 b2, .int .u8 b3, .int .u8 b4, .int .u8 b5, .int .u8 b6, .int .u8 b7]] w fun e w' => e = .returned (.bool true) ∧ Below w.heap.size w w' := by
  have hu24 := Tryd.underlying24
  have hu47 := Tryd.underlying47
  have HRG0 := Aside0.mk hrG0
  clear hrG0
  have HB := Aside0.mk (Below.refl w.heap.size w)
  replace hD := Aside0.mk hD
  replace hF := Aside0.mk hF
  replace hS := Aside0.mk hS
  replace hW := Aside0.mk hW
  replace hE := Aside0.mk hE
  rcases hds with hd | ⟨hd, hs⟩
  · go_enter Tryd.func6, Tryd.ntmps6
    go_upto_region 8 with (first
      | ((with_reducible refine gate_dst (N := 2) rfl ?_); refine sh_box 2 #[.int .u8 a0_0, .int .u8 a0_1, .int .u8 a0_2, .int .i16 a0_3, .int .i32 a0_4] 24 ?_; intro g2 hg w1 hbox hb; have GE2 := sh_z (w := w) hg; replace HB := sh_b (w := w) hb; have BK2 := Aside0.mk (hbox); clear hb hbox hg; have hcz2 := blk_all5 BK2.out)
      | ((with_reducible refine gate_dst (N := 3) rfl ?_); refine sh_box 3 #[.int .u8 b0, .int .u8 b1, .int .u8 b2, .int .u8 b3, .int .u8 b4, .int .u8 b5, .int .u8 b6, .int .u8 b7] 47 ?_; intro g3 hg w2 hbox hb; have GE3 := sh_z (w := w) hg; have NB2_3 := sh_n BK2 hg; have NB3_2 := sh_s NB2_3; replace BK2 := sh_k BK2 hb; replace HB := sh_b (w := w) hb; have BK3 := Aside0.mk (hbox); clear hb hbox hg; have hnb2 := NB2_3.out; have hnc2 := NB3_2.out; have hcz3 := blk_all8 BK3.out; have hcz2 := blk_all5 BK2.out)
      | (go_at_call 19; (with_reducible refine (insn_Encode.calls a0_0 a0_1 a0_2 a0_3 a0_4 l 21 _ hE.out).mono ?_); rintro e w3 ⟨v0, rfl, ho, hb⟩; have HO := Aside0.mk ho; replace BK2 := sh_k BK2 hb; replace BK3 := sh_k BK3 hb; replace HB := sh_b (w := w) hb; clear ho hb; have hcz2 := blk_all5 BK2.out; have hcz3 := blk_all8 BK3.out; obtain ⟨Ao, co, eo⟩ := Kd.R_slice HO.out; subst eo))
    go_wp2_with (first
      | (go_at_call 16; (refine (insn_Decode.calls (some ⟨g3, 0, none⟩) 8 [b0, b1, b2, b3, b4, b5, b6, b7] k0 k1 k2 k3 k4 0 _ ?side1 ?side2 hD.out).mono ?_); (case side1 => exact C8 (blk_all8 bk_now)); (case side2 => simp); rintro e w6 ⟨rfl, hb⟩; replace BK2 := sh_kp (g := g2) (t := 24) #[.int .u8 a0_0, .int .u8 a0_1, .int .u8 a0_2, .int .i16 a0_3, .int .i32 a0_4] hb; replace BK3 := sh_kp (g := g3) (t := 47) #[.int .u8 b0, .int .u8 b1, .int .u8 b2, .int .u8 b3, .int .u8 b4, .int .u8 b5, .int .u8 b6, .int .u8 b7] hb; replace HB := sh_b (w := w) hb; clear hb; have hcz3 := blk_all8 BK3.out)
      | ((with_reducible refine gate_dst (N := 9) rfl ?_); refine sh_box 9 #[.int .u8 0, .int .u8 0, .int .u8 0, .int .i16 0, .int .i32 0] 24 ?_; intro g9 hg w7 hbox hb; have GE9 := sh_z (w := w) hg; have NB2_9 := sh_n BK2 hg; have NB9_2 := sh_s NB2_9; have NB3_9 := sh_n BK3 hg; have NB9_3 := sh_s NB3_9; replace BK2 := sh_k BK2 hb; replace BK3 := sh_k BK3 hb; replace HB := sh_b (w := w) hb; have BK9 := Aside0.mk (hbox); clear hb hbox hg; have hnb9 := NB2_9.out; have hnc9 := NB9_2.out; have hnb10 := NB3_9.out; have hnc10 := NB9_3.out; have hcz9 := blk_all5 BK9.out; have hcz3 := blk_all8 BK3.out)
      | (go_at_call 19; (with_reducible refine (insn_Encode.calls k0 k1 k2 k3 k4 [b0, b1, b2, b3, b4, b5, b6, b7] 0 _ hF.out).mono ?_); rintro e w8 ⟨v0, rfl, ho, hb⟩; have HO := Aside0.mk ho; replace BK3 := sh_kp (g := g3) (t := 47) #[.int .u8 b0, .int .u8 b1, .int .u8 b2, .int .u8 b3, .int .u8 b4, .int .u8 b5, .int .u8 b6, .int .u8 b7] hb; replace HB := sh_b (w := w) hb; clear ho hb; have hcz3 := blk_all8 BK3.out; obtain ⟨Ap, cp, ep⟩ := Kd.R_slice HO.out; subst ep)
      | (go_at_call 18; (refine (stockadelaw02_same.calls k _ _ [b0, b1, b2, b3, b4, b5, b6, b7] (some ⟨g3, 0, none⟩) 8 [b0, b1, b2, b3, b4, b5, b6, b7] true _ ?side1 ?side2 ?side3 ?side4 hS.out).mono ?_); (case side1 => exact (Kd.R_reads' HO.out).2.2); (case side2 => exact (Kd.R_reads' HO.out).2.1); (case side3 => exact C8 (blk_all8 bk_now)); (case side4 => simp); rintro e w' ⟨rfl, ⟨nd, rfl⟩⟩)
      | (go_at_call 15; (with_reducible refine (stockadelaw02_wakes.calls k true _ ?side1 rfl hW.out).mono ?_); (case side1 => exact Kd.C_below HRG0.out b_now); rintro e w9 ⟨rfl, hb⟩; replace HB := sh_b (w := w) hb; clear hb))
    go_ret
    exact ⟨ret_now, b_now⟩
  · go_enter Tryd.func6, Tryd.ntmps6
    go_upto_region 8 with (first
      | ((with_reducible refine gate_dst (N := 2) rfl ?_); refine sh_box 2 #[.int .u8 a0_0, .int .u8 a0_1, .int .u8 a0_2, .int .i16 a0_3, .int .i32 a0_4] 24 ?_; intro g2 hg w1 hbox hb; have GE2 := sh_z (w := w) hg; replace HB := sh_b (w := w) hb; have BK2 := Aside0.mk (hbox); clear hb hbox hg; have hcz2 := blk_all5 BK2.out)
      | ((with_reducible refine gate_dst (N := 3) rfl ?_); refine sh_box 3 #[.int .u8 b0, .int .u8 b1, .int .u8 b2, .int .u8 b3, .int .u8 b4, .int .u8 b5, .int .u8 b6, .int .u8 b7] 47 ?_; intro g3 hg w2 hbox hb; have GE3 := sh_z (w := w) hg; have NB2_3 := sh_n BK2 hg; have NB3_2 := sh_s NB2_3; replace BK2 := sh_k BK2 hb; replace HB := sh_b (w := w) hb; have BK3 := Aside0.mk (hbox); clear hb hbox hg; have hnb2 := NB2_3.out; have hnc2 := NB3_2.out; have hcz3 := blk_all8 BK3.out; have hcz2 := blk_all5 BK2.out)
      | (go_at_call 19; (with_reducible refine (insn_Encode.calls a0_0 a0_1 a0_2 a0_3 a0_4 l 21 _ hE.out).mono ?_); rintro e w3 ⟨v0, rfl, ho, hb⟩; have HO := Aside0.mk ho; replace BK2 := sh_k BK2 hb; replace BK3 := sh_k BK3 hb; replace HB := sh_b (w := w) hb; clear ho hb; have hcz2 := blk_all5 BK2.out; have hcz3 := blk_all8 BK3.out; obtain ⟨Ao, co, eo⟩ := Kd.R_slice HO.out; subst eo))
    go_wp2_with (first
      | (go_at_call 16; (refine (insn_Decode.calls (some ⟨g3, 0, none⟩) 8 [b0, b1, b2, b3, b4, b5, b6, b7] k0 k1 k2 k3 k4 0 _ ?side1 ?side2 hD.out).mono ?_); (case side1 => exact C8 (blk_all8 bk_now)); (case side2 => simp); rintro e w6 ⟨rfl, hb⟩; replace BK2 := sh_kp (g := g2) (t := 24) #[.int .u8 a0_0, .int .u8 a0_1, .int .u8 a0_2, .int .i16 a0_3, .int .i32 a0_4] hb; replace BK3 := sh_kp (g := g3) (t := 47) #[.int .u8 b0, .int .u8 b1, .int .u8 b2, .int .u8 b3, .int .u8 b4, .int .u8 b5, .int .u8 b6, .int .u8 b7] hb; replace HB := sh_b (w := w) hb; clear hb; have hcz3 := blk_all8 BK3.out)
      | ((with_reducible refine gate_dst (N := 9) rfl ?_); refine sh_box 9 #[.int .u8 0, .int .u8 0, .int .u8 0, .int .i16 0, .int .i32 0] 24 ?_; intro g9 hg w7 hbox hb; have GE9 := sh_z (w := w) hg; have NB2_9 := sh_n BK2 hg; have NB9_2 := sh_s NB2_9; have NB3_9 := sh_n BK3 hg; have NB9_3 := sh_s NB3_9; replace BK2 := sh_k BK2 hb; replace BK3 := sh_k BK3 hb; replace HB := sh_b (w := w) hb; have BK9 := Aside0.mk (hbox); clear hb hbox hg; have hnb9 := NB2_9.out; have hnc9 := NB9_2.out; have hnb10 := NB3_9.out; have hnc10 := NB9_3.out; have hcz9 := blk_all5 BK9.out; have hcz3 := blk_all8 BK3.out)
      | (go_at_call 19; (with_reducible refine (insn_Encode.calls k0 k1 k2 k3 k4 [b0, b1, b2, b3, b4, b5, b6, b7] 0 _ hF.out).mono ?_); rintro e w8 ⟨v0, rfl, ho, hb⟩; have HO := Aside0.mk ho; replace BK3 := sh_kp (g := g3) (t := 47) #[.int .u8 b0, .int .u8 b1, .int .u8 b2, .int .u8 b3, .int .u8 b4, .int .u8 b5, .int .u8 b6, .int .u8 b7] hb; replace HB := sh_b (w := w) hb; clear ho hb; have hcz3 := blk_all8 BK3.out; obtain ⟨Ap, cp, ep⟩ := Kd.R_slice HO.out; subst ep)
      | (go_at_call 18; (refine (stockadelaw02_same.calls k _ _ [b0, b1, b2, b3, b4, b5, b6, b7] (some ⟨g3, 0, none⟩) 8 [b0, b1, b2, b3, b4, b5, b6, b7] true _ ?side1 ?side2 ?side3 ?side4 hS.out).mono ?_); (case side1 => exact (Kd.R_reads' HO.out).2.2); (case side2 => exact (Kd.R_reads' HO.out).2.1); (case side3 => exact C8 (blk_all8 bk_now)); (case side4 => simp); rintro e w' ⟨rfl, ⟨nd, rfl⟩⟩)
      | (go_at_call 15; (with_reducible refine (stockadelaw02_wakes.calls k true _ ?side1 rfl hW.out).mono ?_); (case side1 => exact Kd.C_below HRG0.out b_now); rintro e w9 ⟨rfl, hb⟩; replace HB := sh_b (w := w) hb; clear hb))
    go_ret
    exact ⟨ret_now, b_now⟩
end Go.Proofs.YtkojjjdeacdabaaDoor.P
