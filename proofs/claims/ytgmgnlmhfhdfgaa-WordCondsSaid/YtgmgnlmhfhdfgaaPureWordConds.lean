/- The law WordConds over plain functions: a condition answers what the reference answers. -/
import Derived.Test.YtgmgnlmhfhdfgaaWb
namespace Go.Proofs.Ytgmgnlmhfhdfgaa.Pure
open Go Go.RowKit Go.Proofs.YtgmgnlmhfhdfgaaW.PrintWords Go.Proofs.YtgmgnlmhfhdfgaaW.PrintLast Go.Proofs.YtgmgnlmhfhdfgaaW.PrintMore
open Go.Proofs.Ytgmgnlmhfhdfgaa.Wd
theorem WordConds (a0_0 : Int) (a0_1 : Bool) (a0_2 : Int) (a0_3 : Int) (_w0_0 : (Lit.int .i64 a0_0).wf = true) (w0_2 : (Lit.int .u64 a0_2).wf = true) (w0_3 : (Lit.int .u64 a0_3).wf = true) : ∃ k, P.stockadelaw01_WordConds.f k a0_0 a0_1 a0_2 a0_3 = some true := by
  refine ⟨100, ?_⟩
  unfold P.stockadelaw01_WordConds.f
  rw [cond_eq 100 (by omega) a0_0 a0_1 (R_wf w0_2) (R_wf w0_3), Cond_ref a0_0 a0_1 (R_wf w0_2) (R_wf w0_3), awake_eq]
  simp
end Go.Proofs.Ytgmgnlmhfhdfgaa.Pure
