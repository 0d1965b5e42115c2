/- The law WordDivides over plain functions: a quotient and its rest make the number again, and the rest is below what is divided by; by 0 the quotient is 0, the rest all. -/
import Derived.Test.YtgmgnlmhfhdfgaaWc
namespace Go.Proofs.Ytgmgnlmhfhdfgaa.Pure
open Go Go.RowKit Go.Proofs.YtgmgnlmhfhdfgaaW.PrintWords Go.Proofs.YtgmgnlmhfhdfgaaW.PrintLast Go.Proofs.YtgmgnlmhfhdfgaaW.PrintMore
open Go.Proofs.Ytgmgnlmhfhdfgaa.Wd
theorem WordDivides (a0 : Bool) (a1 : Int) (a2 : Int) (w1 : (Lit.int .u64 a1).wf = true) (w2 : (Lit.int .u64 a2).wf = true) : ∃ k, P.stockadelaw01_WordDivides.f k a0 a1 a2 = some true := by
  have ha := R_wf w1
  have hb := R_wf w2
  generalize a1 = a at *
  generalize a2 = b at *
  generalize a0 = w at *
  refine ⟨100, ?_⟩
  have o0 : (0 : Int) ≤ 0 ∧ (0 : Int) ≤ 12 := by omega
  have o2 : (0 : Int) ≤ 2 ∧ (2 : Int) ≤ 12 := by omega
  have o3 : (0 : Int) ≤ 3 ∧ (3 : Int) ≤ 12 := by omega
  have o9 : (0 : Int) ≤ 9 ∧ (9 : Int) ≤ 12 := by omega
  have hx := R_fit w ha
  have hy := R_fit w hb
  have hq := R_A 3 w ha hb
  have hr := R_A 9 w ha hb
  have hqy := R_A 2 w hq hy
  unfold P.stockadelaw01_WordDivides.f
  simp only [alu'_eq 3 o3 w ha hb, alu'_eq 9 o9 w ha hb, fit'_eq w ha, fit'_eq w hb, Option.bind_some, awake_eq, if_true, alu'_eq 2 o2 w hq hy, alu'_eq 0 o0 w hqy hr]
  by_cases e : fit w b = 0
  · have eq : A 3 w a b = 0 := by
      show fit w (if fit w b = 0 then 0 else fit w a / fit w b) = 0
      rw [if_pos e]; cases w <;> rfl
    have er : A 9 w a b = fit w a := by
      show fit w (if fit w b = 0 then fit w a else fit w a % fit w b) = _
      rw [if_pos e, fit_fit w ha]
    rw [if_pos e, eq, er]; simp
  · have hy0 := hy.1
    have hyp : 0 < fit w b := by omega
    have h1 : fit w a / fit w b ≤ fit w a := Int.ediv_le_self _ hx.1
    have h2 := Int.ediv_nonneg hx.1 hy0
    have h3 := Int.emod_nonneg (fit w a) e
    have h4 := Int.emod_lt_of_pos (fit w a) hyp
    have h5 := Int.mul_ediv_add_emod (fit w a) (fit w b)
    have h6 : fit w a % fit w b ≤ fit w a := by have := Int.mul_nonneg hy0 h2; omega
    have hIa := In_fit (w := w) ha
    have eq : A 3 w a b = fit w a / fit w b := by
      show fit w (if fit w b = 0 then 0 else fit w a / fit w b) = _
      rw [if_neg e]
      exact fit_In ⟨h2, by have := hIa.2; omega⟩
    have er : A 9 w a b = fit w a % fit w b := by
      show fit w (if fit w b = 0 then fit w a else fit w a % fit w b) = _
      rw [if_neg e]
      exact fit_In ⟨h3, by have := hIa.2; omega⟩
    have et : A 0 w (A 2 w (A 3 w a b) (fit w b)) (A 9 w a b) = fit w a := by
      rw [A0 w hqy hr, A2 w hq hy, addL, eq, er, Int.mul_comm, h5, ← fit_md w hx, fit_fit w ha]
    rw [if_neg e, et, er, eq, if_pos h4, if_pos h1]; simp
end Go.Proofs.Ytgmgnlmhfhdfgaa.Pure
