/- Chapter 02: what the statements share. -/
import Derived.Test.YtkojjjdeacdabaaDoorPx10
import Derived.Test.YtkojjjdeacdabaaDoorIc
namespace Go.Proofs.YtkojjjdeacdabaaDoor.Pure
open Go.RowKit Go.Proofs.YtkojjjdeacdabaaDoorW.PrintWords Go.Proofs.YtkojjjdeacdabaaDoorW.PrintLast Go.Proofs.YtkojjjdeacdabaaDoorW.PrintMore Go.Proofs.YtkojjjdeacdabaaDoor.P
set_option linter.unusedVariables false
set_option linter.unusedSimpArgs false

theorem wf_u8 {a : Int} (h : (Lit.int .u8 a).wf = true) : 0 ≤ a ∧ a ≤ 255 := by
  simp only [Lit.wf, Bool.and_eq_true, decide_eq_true_eq] at h; exact ⟨h.1, h.2⟩
theorem wf_i32 {a : Int} (h : (Lit.int .i32 a).wf = true) : -2147483648 ≤ a ∧ a ≤ 2147483647 := by
  simp only [Lit.wf, Bool.and_eq_true, decide_eq_true_eq] at h; exact ⟨h.1, h.2⟩
theorem wakes_eq (k : Nat) : stockadelaw02_wakes.f (k + 4) = some true := by
  unfold stockadelaw02_wakes.f
  rw [Of_eq k (by decide) (by decide) (by decide) (by decide) (by decide) (by decide), Of_eq k (by decide) (by decide) (by decide) (by decide) (by decide) (by decide)]
  have h1 : ofV 183 1 0 0 (-5) = (1, 11, 0, true, false, 0) := by decide +kernel
  have h2 : ofV 143 0 0 0 0 = (0, 0, 0, false, false, 20) := by decide +kernel
  have h3 : insn_Decode.f ([24, 33, 255, 255, 1, 0, 0, 128] : List Int) = some (24, 1, 2, -1, -2147483647, 0) := by decide +kernel
  rw [h1, h2, h3]
  rfl
end Go.Proofs.YtkojjjdeacdabaaDoor.Pure
