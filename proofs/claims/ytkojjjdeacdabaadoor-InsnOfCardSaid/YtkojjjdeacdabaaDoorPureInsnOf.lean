/- Chapter 02: the law InsnOf in plain terms. -/
import Derived.Test.YtkojjjdeacdabaaDoorPx11
import Derived.Test.YtkojjjdeacdabaaDoorIc
import Derived.Test.YtkojjjdeacdabaaDoorId
namespace Go.Proofs.YtkojjjdeacdabaaDoor.Pure
open Go.RowKit Go.Proofs.YtkojjjdeacdabaaDoorW.PrintWords Go.Proofs.YtkojjjdeacdabaaDoorW.PrintLast Go.Proofs.YtkojjjdeacdabaaDoorW.PrintMore Go.Proofs.YtkojjjdeacdabaaDoor.P
set_option linter.unusedVariables false
set_option linter.unusedSimpArgs false

theorem wf_u8 {a : Int} (h : (Lit.int .u8 a).wf = true) : 0 ≤ a ∧ a ≤ 255 := by
  simp only [Lit.wf, Bool.and_eq_true, decide_eq_true_eq] at h; exact ⟨h.1, h.2⟩
theorem wf_i32 {a : Int} (h : (Lit.int .i32 a).wf = true) : -2147483648 ≤ a ∧ a ≤ 2147483647 := by
  simp only [Lit.wf, Bool.and_eq_true, decide_eq_true_eq] at h; exact ⟨h.1, h.2⟩
theorem wakes_eq (k : Nat) : stockadelaw02_wakes.f (k + 4) = some true := by
  unfold stockadelaw02_wakes.f
  rw [Of_eq k (by decide) (by decide) (by decide) (by decide) (by decide) (by decide), Of_eq k (by decide) (by decide) (by decide) (by decide) (by decide) (by decide)]
  have h1 : ofV 183 1 0 0 (-5) = (1, 11, 0, true, false, 0) := by decide +kernel
  have h2 : ofV 143 0 0 0 0 = (0, 0, 0, false, false, 20) := by decide +kernel
  have h3 : insn_Decode.f ([24, 33, 255, 255, 1, 0, 0, 128] : List Int) = some (24, 1, 2, -1, -2147483647, 0) := by decide +kernel
  rw [h1, h2, h3]
  rfl
theorem is_eq (a b c : Int) (d e : Bool) : stockadelaw02_is.f a b c d e a b c d e = some true := by
  unfold stockadelaw02_is.f
  simp
theorem InsnOf (a0_0 : Int) (a0_1 : Int) (a0_2 : Int) (a0_3 : Int) (a0_4 : Int) (w0_0 : (Lit.int .u8 a0_0).wf = true) (w0_1 : (Lit.int .u8 a0_1).wf = true) (w0_2 : (Lit.int .u8 a0_2).wf = true) (w0_3 : (Lit.int .i16 a0_3).wf = true) (w0_4 : (Lit.int .i32 a0_4).wf = true) : ∃ k, P.stockadelaw02_InsnOf.f k a0_0 a0_1 a0_2 a0_3 a0_4 = some true := by
  obtain ⟨h0, h1⟩ := wf_u8 w0_0
  obtain ⟨s0, s1⟩ := wf_u8 w0_2
  obtain ⟨i0, i1⟩ := wf_i32 w0_4
  refine ⟨200, ?_⟩
  unfold stockadelaw02_InsnOf.f
  rw [show (200 : Nat) = 196 + 4 from rfl, Of_eq 196 h0 h1 s0 s1 i0 i1, show (196 + 4 : Nat) = 0 + 200 from rfl, refOf_eq 0 h0 h1 (wf_u8 w0_1).1 s0 s1 i0 i1, show (0 + 200 : Nat) = 196 + 4 from rfl, wakes_eq]
  simp only [Option.bind_some, if_true, is_eq]
end Go.Proofs.YtkojjjdeacdabaaDoor.Pure
