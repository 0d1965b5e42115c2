/- The law WordRing over plain functions: numbers with Add and Mul are a ring, Sub and Xor undo, Or and And share the bits out. -/
import Derived.Test.YtgmgnlmhfhdfgaaWc
namespace Go.Proofs.Ytgmgnlmhfhdfgaa.Pure
open Go Go.RowKit Go.Proofs.YtgmgnlmhfhdfgaaW.PrintWords Go.Proofs.YtgmgnlmhfhdfgaaW.PrintLast Go.Proofs.YtgmgnlmhfhdfgaaW.PrintMore
open Go.Proofs.Ytgmgnlmhfhdfgaa.Wd
theorem WordRing (a0_0 : Int) (a0_1 : Bool) (a0_2 : Int) (a0_3 : Int) (a1 : Int) (_w0_0 : (Lit.int .i64 a0_0).wf = true) (w0_2 : (Lit.int .u64 a0_2).wf = true) (w0_3 : (Lit.int .u64 a0_3).wf = true) (w1 : (Lit.int .u64 a1).wf = true) : ∃ k, P.stockadelaw01_WordRing.f k a0_0 a0_1 a0_2 a0_3 a1 = some true := by
  have ha := R_wf w0_2
  have hb := R_wf w0_3
  have hc := R_wf w1
  generalize a0_2 = a at *
  generalize a0_3 = b at *
  generalize a1 = c at *
  generalize a0_1 = w at *
  refine ⟨100, ?_⟩
  have o0 : (0 : Int) ≤ 0 ∧ (0 : Int) ≤ 12 := by omega
  have o1 : (0 : Int) ≤ 1 ∧ (1 : Int) ≤ 12 := by omega
  have o2 : (0 : Int) ≤ 2 ∧ (2 : Int) ≤ 12 := by omega
  have o4 : (0 : Int) ≤ 4 ∧ (4 : Int) ≤ 12 := by omega
  have o5 : (0 : Int) ≤ 5 ∧ (5 : Int) ≤ 12 := by omega
  have o8 : (0 : Int) ≤ 8 ∧ (8 : Int) ≤ 12 := by omega
  have o10 : (0 : Int) ≤ 10 ∧ (10 : Int) ≤ 12 := by omega
  have o11 : (0 : Int) ≤ 11 ∧ (11 : Int) ≤ 12 := by omega
  have hs := R_A 0 w ha hb
  have hp := R_A 2 w ha hb
  have hca := R_A 2 w hc ha
  have hcb := R_A 2 w hc hb
  have hbc := R_A 0 w hb hc
  have hbc2 := R_A 2 w hb hc
  have h4 := R_A 4 w ha hb
  have h5 := R_A 5 w ha hb
  have h10 := R_A 10 w ha hb
  have h8 := R_A 8 w ha hc
  have e1 : A 0 w a b = A 0 w b a := by rw [A0 w ha hb, A0 w hb ha, Int.add_comm]
  have e2 : A 2 w a b = A 2 w b a := by rw [A2 w ha hb, A2 w hb ha, Int.mul_comm]
  have e3 : A 1 w (A 0 w a b) b = fit w a := by rw [A1 w hs hb, A0 w ha hb, subL, fit_md w ha]; congr 1; omega
  have e4 : A 2 w c (A 0 w a b) = A 0 w (A 2 w c a) (A 2 w c b) := by rw [A2 w hc hs, A0 w ha hb, mulR, A0 w hca hcb, A2 w hc ha, A2 w hc hb, addL, addR, Int.mul_add]
  have e5 : A 0 w (A 0 w a b) c = A 0 w a (A 0 w b c) := by rw [A0 w hs hc, A0 w ha hb, addL, A0 w ha hbc, A0 w hb hc, addR, Int.add_assoc]
  have e6 : A 2 w (A 2 w a b) c = A 2 w a (A 2 w b c) := by rw [A2 w hp hc, A2 w ha hb, mulL, A2 w ha hbc2, A2 w hb hc, mulR, Int.mul_assoc]
  have e7 : A 0 w (A 4 w a b) (A 5 w a b) = A 0 w a b := by
    rw [A0 w h4 h5, A4 w ha hb, A5 w ha hb, or_and_sum (R_fit w ha) (R_fit w hb), A0 w ha hb, fit_md w ha, fit_md w hb, addL, addR]
  have e8 : A 10 w (A 10 w a b) b = fit w a := by
    rw [A10 w h10 hb, A10 w ha hb, fit_In (In_bits (In_fit ha) (In_fit hb)).2.2, xor_twice (R_fit w ha) (R_fit w hb)]
  have e9 : A 0 w a (A 8 w a c) = 0 := by rw [A0 w ha h8, A8 w c ha, addR, show a + -a = 0 by omega]; rfl
  have e10 : A 11 w a b = fit w b := A11 w a hb
  unfold P.stockadelaw01_WordRing.f
  rw [awake_eq]
  simp only [Option.bind_some, if_true, alu'_eq 0 o0 w ha hb, alu'_eq 2 o2 w ha hb, alu'_eq 0 o0 w hb ha, if_pos e1, alu'_eq 2 o2 w hb ha, if_pos e2, alu'_eq 1 o1 w hs hb, fit'_eq w ha, e3]
  simp only [bne_self_eq_false, P.stockadelaw01_WordRing.j0, Bool.false_eq_true, if_false, Option.bind_some, alu'_eq 2 o2 w hc hs, alu'_eq 2 o2 w hc ha, alu'_eq 2 o2 w hc hb, alu'_eq 0 o0 w hca hcb, if_pos e4, alu'_eq 0 o0 w hs hc, alu'_eq 0 o0 w hb hc, alu'_eq 0 o0 w ha hbc, if_pos e5, alu'_eq 2 o2 w hp hc, alu'_eq 2 o2 w hb hc, alu'_eq 2 o2 w ha hbc2, e6]
  simp only [P.stockadelaw01_WordRing.j1, Bool.false_eq_true, if_false, Option.bind_some, alu'_eq 4 o4 w ha hb, alu'_eq 5 o5 w ha hb, alu'_eq 0 o0 w h4 h5, if_pos e7, alu'_eq 10 o10 w ha hb, alu'_eq 10 o10 w h10 hb, fit'_eq w ha, if_pos e8, alu'_eq 8 o8 w ha hc, alu'_eq 0 o0 w ha h8, if_pos e9, alu'_eq 11 o11 w ha hb, fit'_eq w hb, e10, beq_self_eq_true]
end Go.Proofs.Ytgmgnlmhfhdfgaa.Pure
