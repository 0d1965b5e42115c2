/- Chapter 05: what Of and Places come to, in plain terms (as in chapter 02). -/
import Derived.Test.YtkjcjlegokdpdaaDoorPx5
import Derived.Test.YtkjcjlegokdpdaaDoorPx7
import Derived.Test.YtkjcjlegokdpdaaDoorIa
namespace Go.Proofs.YtkjcjlegokdpdaaDoor.Pure
open Go.RowKit Go.Proofs.YtkjcjlegokdpdaaDoorW.PrintWords Go.Proofs.YtkjcjlegokdpdaaDoorW.PrintLast Go.Proofs.YtkjcjlegokdpdaaDoorW.PrintMore Go.Proofs.YtkjcjlegokdpdaaDoor.P
set_option linter.unusedVariables false
set_option linter.unusedSimpArgs false

set_option maxHeartbeats 4000000 in
theorem Of_eq {op dst src off imm : Int} (k : Nat) (h0 : 0 ≤ op) (h1 : op ≤ 255) (s0 : 0 ≤ src) (s1 : src ≤ 255) (i0 : -2147483648 ≤ imm) (i1 : imm ≤ 2147483647) :
    insn_Of.f (k + 4) op dst src off imm = some (ofV op dst src off imm) := by
  unfold insn_Of.f
  rw [kind_eq k h0 h1 s0 s1 i0 i1]
  obtain ⟨a, b, c, d, e, hk⟩ : ∃ a b c d e, kindV op src imm = (a, b, c, d, e) := ⟨_, _, _, _, _, rfl⟩
  have hz : kindV op src imm = zeroV ∨ (kindV op src imm).1 ≠ 0 := by
    unfold kindV jumpV classV
    repeat' split
    all_goals first | exact .inl rfl | (right; simp; done) | (right; simp; omega)
  simp only [Option.bind_some, hk, ofV] at hz ⊢
  rw [show k + 4 = (k + 3) + 1 from rfl, fields_eq]
  generalize fieldsV (a, b, c, d, e) = g
  obtain ⟨g1, g2, g3, g4, g5⟩ := g
  unfold insn_Of.j0
  by_cases ha : a = 0
  · have := hz.resolve_right (by simp [ha])
    simp only [zeroV, Prod.mk.injEq] at this
    obtain ⟨rfl, rfl, rfl, rfl, rfl⟩ := this
    simp
  · simp only [Option.bind_some, ha, if_false]
    have hc : (a == 0 && (b == 0 && (c == 0 && (!d && !e)))) = false := by simp [ha]
    simp only [hc]
    have h10 : dst > 10 → ¬ dst = 0 := by omega
    have h11 : dst = 10 → ¬ dst = 0 := by omega
    have h12 : src > 10 → ¬ src = 0 := by omega
    clear hc hz hk ha h0 h1 s0 s1 i0 i1
    cases g1 <;> cases g2 <;> cases g3 <;> cases g4 <;> cases g5 <;> simp (config := { decide := true }) only [if_true, if_false, Bool.false_eq_true, reduceIte, true_and, false_and, false_or, or_false, and_true, and_false, ne_eq, bne_iff_ne, decide_eq_true_eq, reduceCtorEq]
    all_goals (repeat' split)
    all_goals (first | rfl | (exfalso; omega) | simp_all)
def kOf (w : W5) (r : Int) : Int × Int × Int × Bool × Bool × Int := (w.1, w.2.1, w.2.2.1, w.2.2.2.1, w.2.2.2.2, r)
def bad1 (f : Bool × Bool × Bool × Bool × Bool) (dst src : Int) : Prop := f.1 = true ∧ dst > 10 ∨ f.2.1 = true ∧ dst = 10 ∨ f.2.2.1 = true ∧ src > 10
def bad2 (f : Bool × Bool × Bool × Bool × Bool) (c dst src off imm : Int) : Prop := f.1 = false ∧ dst ≠ 0 ∨ f.2.2.1 = false ∧ src ≠ 0 ∧ c ≠ 11 ∨ f.2.2.2.1 = false ∧ off ≠ 0 ∨ f.2.2.2.2 = false ∧ imm ≠ 0
theorem of_cases (op dst src off imm : Int) :
    ofV op dst src off imm = (0, 0, 0, false, false, 20) ∧ (kindV op src imm).1 = 0 ∨ ofV op dst src off imm = (0, 0, 0, false, false, 21) ∧ (kindV op src imm).1 ≠ 0 ∨ ofV op dst src off imm = (0, 0, 0, false, false, 22) ∧ (kindV op src imm).1 ≠ 0 ∨
      ofV op dst src off imm = kOf (kindV op src imm) 0 ∧ (kindV op src imm).1 ≠ 0 ∧ ¬ bad1 (fieldsV (kindV op src imm)) dst src ∧ ¬ bad2 (fieldsV (kindV op src imm)) (kindV op src imm).1 dst src off imm := by
  unfold ofV kOf bad1 bad2
  by_cases h0 : (kindV op src imm).1 = 0
  · left; exact ⟨by rw [if_pos h0], h0⟩
  · right
    by_cases h1 : (fieldsV (kindV op src imm)).1 = true ∧ dst > 10 ∨ (fieldsV (kindV op src imm)).2.1 = true ∧ dst = 10 ∨ (fieldsV (kindV op src imm)).2.2.1 = true ∧ src > 10
    · left; exact ⟨by rw [if_neg h0, if_pos h1], h0⟩
    · right
      by_cases h2 : (fieldsV (kindV op src imm)).1 = false ∧ dst ≠ 0 ∨ (fieldsV (kindV op src imm)).2.2.1 = false ∧ src ≠ 0 ∧ (kindV op src imm).1 ≠ 11 ∨ (fieldsV (kindV op src imm)).2.2.2.1 = false ∧ off ≠ 0 ∨ (fieldsV (kindV op src imm)).2.2.2.2 = false ∧ imm ≠ 0
      · left; exact ⟨by rw [if_neg h0, if_neg h1, if_pos h2], h0⟩
      · right; exact ⟨by rw [if_neg h0, if_neg h1, if_neg h2], h0, h1, h2⟩
theorem of_ok {op dst src off imm : Int} (h : (ofV op dst src off imm).2.2.2.2.2 = 0) :
    ofV op dst src off imm = kOf (kindV op src imm) 0 ∧ (kindV op src imm).1 ≠ 0 ∧ ¬ bad1 (fieldsV (kindV op src imm)) dst src ∧ ¬ bad2 (fieldsV (kindV op src imm)) (kindV op src imm).1 dst src off imm := by
  rcases of_cases op dst src off imm with h' | h' | h' | h'
  · rw [h'.1] at h; exact absurd h (by decide)
  · rw [h'.1] at h; exact absurd h (by decide)
  · rw [h'.1] at h; exact absurd h (by decide)
  · exact h'
theorem of_no {op dst src off imm : Int} (h : (ofV op dst src off imm).2.2.2.2.2 ≠ 0) : ∃ r, ofV op dst src off imm = (0, 0, 0, false, false, r) ∧ r ≠ 0 := by
  rcases of_cases op dst src off imm with h' | h' | h' | h'
  · exact ⟨20, h'.1, by decide⟩
  · exact ⟨21, h'.1, by decide⟩
  · exact ⟨22, h'.1, by decide⟩
  · rw [h'.1] at h; exact absurd rfl h
theorem of_yes {op dst src off imm : Int} (h0 : (kindV op src imm).1 ≠ 0) (h1 : ¬ bad1 (fieldsV (kindV op src imm)) dst src) (h2 : ¬ bad2 (fieldsV (kindV op src imm)) (kindV op src imm).1 dst src off imm) :
    ofV op dst src off imm = kOf (kindV op src imm) 0 := by
  unfold bad1 at h1
  unfold bad2 at h2
  unfold ofV kOf
  simp only [if_neg h0, if_neg h1, if_neg h2]
def placesV (w : W5) : Int := if w.1 = 10 ∨ w.1 = 11 then 2 else 1
theorem Places_eq {op dst src off imm : Int} (k : Nat) (h0 : 0 ≤ op) (h1 : op ≤ 255) (s0 : 0 ≤ src) (s1 : src ≤ 255) (i0 : -2147483648 ≤ imm) (i1 : imm ≤ 2147483647) :
    insn_Places.f (k + 4) op dst src off imm = some (if (ofV op dst src off imm).2.2.2.2.2 = 0 then placesV (kindV op src imm) else 0) := by
  unfold insn_Places.f
  rw [Of_eq k h0 h1 s0 s1 i0 i1, Option.bind_some]
  by_cases he : (ofV op dst src off imm).2.2.2.2.2 = 0
  · rw [if_pos he, if_pos he, (of_ok he).1]
    unfold kOf placesV
    dsimp only
    by_cases c1 : (kindV op src imm).1 = 10 <;> by_cases c2 : (kindV op src imm).1 = 11 <;> simp [c1, c2]
  · rw [if_neg he, if_neg he]
end Go.Proofs.YtkjcjlegokdpdaaDoor.Pure
