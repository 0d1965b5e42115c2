/- The law WordSwaps over plain functions: bytes are turned about, and small numbers made great ones, as the reference does. -/
import Derived.Test.YtgmgnlmhfhdfgaaWs
import Derived.Test.YtgmgnlmhfhdfgaaPx4
namespace Go.Proofs.Ytgmgnlmhfhdfgaa.Pure
open Go Go.RowKit Go.Proofs.YtgmgnlmhfhdfgaaW.PrintWords Go.Proofs.YtgmgnlmhfhdfgaaW.PrintLast Go.Proofs.YtgmgnlmhfhdfgaaW.PrintMore
open Go.Proofs.Ytgmgnlmhfhdfgaa.Wd
theorem swap_some (bits : Int) {a : Int} (ha : R a) : ∃ x y, P.word_Swap.f bits a = some (x, y) := by
  by_cases h : ok3 bits
  · obtain ⟨x3, x2, x1, x0, l3, l2, l1, l0, rfl⟩ := digits ha
    exact ⟨_, _, swap_eq bits x3 x2 x1 x0 l3 l2 l1 l0 h⟩
  · exact ⟨_, _, swap_no bits a h⟩
theorem WordSwaps (a0 : Int) (a1 : Int) (a2 : Int) (w0 : (Lit.int .i64 a0).wf = true) (w1 : (Lit.int .u64 a1).wf = true) (w2 : (Lit.int .i32 a2).wf = true) : ∃ k, P.stockadelaw01_WordSwaps.f k a0 a1 a2 = some true := by
  refine ⟨100, ?_⟩
  obtain ⟨x, y, h⟩ := swap_some a0 (R_wf w1)
  obtain ⟨e1, e2, _⟩ := ext_eq w2
  unfold P.stockadelaw01_WordSwaps.f
  rw [ref_swap a0 w0 (R_wf w1) 100 (by omega), h, awake_eq, e1, e2]
  simp
end Go.Proofs.Ytgmgnlmhfhdfgaa.Pure
