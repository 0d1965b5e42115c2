/- Chapter 02: the law InsnMakes in plain terms. -/
import Derived.Test.YtkojjjdeacdabaaDoorPx16
import Derived.Test.YtkojjjdeacdabaaDoorIi
import Derived.Test.YtkojjjdeacdabaaDoorIf
namespace Go.Proofs.YtkojjjdeacdabaaDoor.Pure
open Go.RowKit Go.Proofs.YtkojjjdeacdabaaDoorW.PrintWords Go.Proofs.YtkojjjdeacdabaaDoorW.PrintLast Go.Proofs.YtkojjjdeacdabaaDoorW.PrintMore Go.Proofs.YtkojjjdeacdabaaDoor.P
set_option linter.unusedVariables false
set_option linter.unusedSimpArgs false

theorem InsnMakes (a0_0 : Int) (a0_1 : Int) (a0_2 : Int) (a0_3 : Bool) (a0_4 : Bool) (a1_0 : Int) (a1_1 : Int) (a1_2 : Int) (a1_3 : Int) (a1_4 : Int) (w0_0 : (Lit.int .i64 a0_0).wf = true) (w0_1 : (Lit.int .i64 a0_1).wf = true) (w0_2 : (Lit.int .i64 a0_2).wf = true) (w1_0 : (Lit.int .u8 a1_0).wf = true) (w1_1 : (Lit.int .u8 a1_1).wf = true) (w1_2 : (Lit.int .u8 a1_2).wf = true) (w1_3 : (Lit.int .i16 a1_3).wf = true) (w1_4 : (Lit.int .i32 a1_4).wf = true) : ∃ k, P.stockadelaw02_InsnMakes.f k a0_0 a0_1 a0_2 a0_3 a0_4 a1_0 a1_1 a1_2 a1_3 a1_4 = some true := by
  obtain ⟨d0, d1⟩ := wf_u8 w1_1
  obtain ⟨s0, s1⟩ := wf_u8 w1_2
  obtain ⟨i0, i1⟩ := wf_i32 w1_4
  have hM := Make_eq (a0_0, a0_1, a0_2, a0_3, a0_4) (op := a1_0) (dst := a1_1) (off := a1_3) 480 ⟨s0, s1⟩ i0 i1
  have hR := refMake_eq (a0_0, a0_1, a0_2, a0_3, a0_4) (op := a1_0) (off := a1_3) 100 d0 ⟨s0, s1⟩ i0 i1
  rw [show (100 + 400 : Nat) = 480 + 20 from rfl] at hR
  refine ⟨480 + 20, ?_⟩
  unfold stockadelaw02_InsnMakes.f stockadelaw02_what.f
  simp only [Option.bind_some]
  dsimp only at hM hR
  rw [hM, Option.bind_some, hR, Option.bind_some, if_pos rfl, if_pos (by simp), show (480 + 20 : Nat) = 496 + 4 from rfl, wakes_eq]
  rfl
end Go.Proofs.YtkojjjdeacdabaaDoor.Pure
