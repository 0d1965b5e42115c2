/- Chapter 02: the program's Of and the document's Of answer alike. -/
import Derived.Test.YtkojjjdeacdabaaDoorPx6
import Derived.Test.YtkojjjdeacdabaaDoorPx9
import Derived.Test.YtkojjjdeacdabaaDoorIb
namespace Go.Proofs.YtkojjjdeacdabaaDoor.Pure
open Go.RowKit Go.Proofs.YtkojjjdeacdabaaDoorW.PrintWords Go.Proofs.YtkojjjdeacdabaaDoorW.PrintLast Go.Proofs.YtkojjjdeacdabaaDoorW.PrintMore Go.Proofs.YtkojjjdeacdabaaDoor.P
set_option linter.unusedVariables false
set_option linter.unusedSimpArgs false

set_option maxHeartbeats 4000000 in
theorem Of_eq {op dst src off imm : Int} (k : Nat) (h0 : 0 ≤ op) (h1 : op ≤ 255) (s0 : 0 ≤ src) (s1 : src ≤ 255) (i0 : -2147483648 ≤ imm) (i1 : imm ≤ 2147483647) :
    insn_Of.f (k + 4) op dst src off imm = some (ofV op dst src off imm) := by
  unfold insn_Of.f
  rw [kind_eq k h0 h1 s0 s1 i0 i1]
  obtain ⟨a, b, c, d, e, hk⟩ : ∃ a b c d e, kindV op src imm = (a, b, c, d, e) := ⟨_, _, _, _, _, rfl⟩
  have hz : kindV op src imm = zeroV ∨ (kindV op src imm).1 ≠ 0 := by
    unfold kindV jumpV classV
    repeat' split
    all_goals first | exact .inl rfl | (right; simp; done) | (right; simp; omega)
  simp only [Option.bind_some, hk, ofV] at hz ⊢
  rw [show k + 4 = (k + 3) + 1 from rfl, fields_eq]
  generalize fieldsV (a, b, c, d, e) = g
  obtain ⟨g1, g2, g3, g4, g5⟩ := g
  unfold insn_Of.j0 insn_Of.j1
  by_cases ha : a = 0
  · have := hz.resolve_right (by simp [ha])
    simp only [zeroV, Prod.mk.injEq] at this
    obtain ⟨rfl, rfl, rfl, rfl, rfl⟩ := this
    simp
  · simp only [Option.bind_some, ha, if_false]
    have hc : (a == 0 && (b == 0 && (c == 0 && (!d && !e)))) = false := by simp [ha]
    simp only [hc]
    have h10 : dst > 10 → ¬ dst = 0 := by omega
    have h11 : dst = 10 → ¬ dst = 0 := by omega
    have h12 : src > 10 → ¬ src = 0 := by omega
    clear hc hz hk ha h0 h1 s0 s1 i0 i1
    cases g1 <;> cases g2 <;> cases g3 <;> cases g4 <;> cases g5 <;> simp (config := { decide := true }) only [if_true, if_false, Bool.false_eq_true, reduceIte, true_and, false_and, false_or, or_false, and_true, and_false, ne_eq, bne_iff_ne, decide_eq_true_eq, reduceCtorEq]
    all_goals (repeat' split)
    all_goals (first | rfl | (exfalso; omega) | simp_all)
end Go.Proofs.YtkojjjdeacdabaaDoor.Pure
