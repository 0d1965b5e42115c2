/- Chapter 02: what Of tells; Reads, Writes, Places in plain terms. -/
import Derived.Test.YtkojjjdeacdabaaDoorPx18
import Derived.Test.YtkojjjdeacdabaaDoorPx19
import Derived.Test.YtkojjjdeacdabaaDoorPx20
import Derived.Test.YtkojjjdeacdabaaDoorIc
namespace Go.Proofs.YtkojjjdeacdabaaDoor.Pure
open Go.RowKit Go.Proofs.YtkojjjdeacdabaaDoorW.PrintWords Go.Proofs.YtkojjjdeacdabaaDoorW.PrintLast Go.Proofs.YtkojjjdeacdabaaDoorW.PrintMore Go.Proofs.YtkojjjdeacdabaaDoor.P
set_option linter.unusedVariables false
set_option linter.unusedSimpArgs false

def kOf (w : W5) (r : Int) : Int × Int × Int × Bool × Bool × Int := (w.1, w.2.1, w.2.2.1, w.2.2.2.1, w.2.2.2.2, r)
def bad1 (f : Bool × Bool × Bool × Bool × Bool) (dst src : Int) : Prop := f.1 = true ∧ dst > 10 ∨ f.2.1 = true ∧ dst = 10 ∨ f.2.2.1 = true ∧ src > 10
def bad2 (f : Bool × Bool × Bool × Bool × Bool) (c dst src off imm : Int) : Prop := f.1 = false ∧ dst ≠ 0 ∨ f.2.2.1 = false ∧ src ≠ 0 ∧ c ≠ 11 ∨ f.2.2.2.1 = false ∧ off ≠ 0 ∨ f.2.2.2.2 = false ∧ imm ≠ 0
theorem of_cases (op dst src off imm : Int) :
    ofV op dst src off imm = (0, 0, 0, false, false, 20) ∧ (kindV op src imm).1 = 0 ∨ ofV op dst src off imm = (0, 0, 0, false, false, 21) ∧ (kindV op src imm).1 ≠ 0 ∨ ofV op dst src off imm = (0, 0, 0, false, false, 22) ∧ (kindV op src imm).1 ≠ 0 ∨
      ofV op dst src off imm = kOf (kindV op src imm) 0 ∧ (kindV op src imm).1 ≠ 0 ∧ ¬ bad1 (fieldsV (kindV op src imm)) dst src ∧ ¬ bad2 (fieldsV (kindV op src imm)) (kindV op src imm).1 dst src off imm := by
  unfold ofV kOf bad1 bad2
  by_cases h0 : (kindV op src imm).1 = 0
  · left; exact ⟨by rw [if_pos h0], h0⟩
  · right
    by_cases h1 : (fieldsV (kindV op src imm)).1 = true ∧ dst > 10 ∨ (fieldsV (kindV op src imm)).2.1 = true ∧ dst = 10 ∨ (fieldsV (kindV op src imm)).2.2.1 = true ∧ src > 10
    · left; exact ⟨by rw [if_neg h0, if_pos h1], h0⟩
    · right
      by_cases h2 : (fieldsV (kindV op src imm)).1 = false ∧ dst ≠ 0 ∨ (fieldsV (kindV op src imm)).2.2.1 = false ∧ src ≠ 0 ∧ (kindV op src imm).1 ≠ 11 ∨ (fieldsV (kindV op src imm)).2.2.2.1 = false ∧ off ≠ 0 ∨ (fieldsV (kindV op src imm)).2.2.2.2 = false ∧ imm ≠ 0
      · left; exact ⟨by rw [if_neg h0, if_neg h1, if_pos h2], h0⟩
      · right; exact ⟨by rw [if_neg h0, if_neg h1, if_neg h2], h0, h1, h2⟩
theorem of_ok {op dst src off imm : Int} (h : (ofV op dst src off imm).2.2.2.2.2 = 0) :
    ofV op dst src off imm = kOf (kindV op src imm) 0 ∧ (kindV op src imm).1 ≠ 0 ∧ ¬ bad1 (fieldsV (kindV op src imm)) dst src ∧ ¬ bad2 (fieldsV (kindV op src imm)) (kindV op src imm).1 dst src off imm := by
  rcases of_cases op dst src off imm with h' | h' | h' | h'
  · rw [h'.1] at h; exact absurd h (by decide)
  · rw [h'.1] at h; exact absurd h (by decide)
  · rw [h'.1] at h; exact absurd h (by decide)
  · exact h'
theorem of_no {op dst src off imm : Int} (h : (ofV op dst src off imm).2.2.2.2.2 ≠ 0) : ∃ r, ofV op dst src off imm = (0, 0, 0, false, false, r) ∧ r ≠ 0 := by
  rcases of_cases op dst src off imm with h' | h' | h' | h'
  · exact ⟨20, h'.1, by decide⟩
  · exact ⟨21, h'.1, by decide⟩
  · exact ⟨22, h'.1, by decide⟩
  · rw [h'.1] at h; exact absurd rfl h
theorem of_yes {op dst src off imm : Int} (h0 : (kindV op src imm).1 ≠ 0) (h1 : ¬ bad1 (fieldsV (kindV op src imm)) dst src) (h2 : ¬ bad2 (fieldsV (kindV op src imm)) (kindV op src imm).1 dst src off imm) :
    ofV op dst src off imm = kOf (kindV op src imm) 0 := by
  unfold bad1 at h1
  unfold bad2 at h2
  unfold ofV kOf
  simp only [if_neg h0, if_neg h1, if_neg h2]
theorem kA {op : Int} (h1 : op ≠ 24) (h2 : op ≠ 215) (s i : Int) : kindV op s i = kindV op 0 0 := by
  unfold kindV; simp [h1, h2]
theorem k24 (s i : Int) : kindV 24 s i = kindV 24 s 0 := by unfold kindV; simp
theorem k215 (s i : Int) : kindV 215 s i = kindV 215 0 i := by unfold kindV; simp
theorem wr_dst (w : W5) (h : (fieldsV w).2.1 = true) : (fieldsV w).1 = true := by
  unfold fieldsV at h ⊢
  repeat' split
  all_goals simp_all
def readsB (w : W5) : Bool := ((fieldsV w).1 && !(fieldsV w).2.1) || (decide (w.1 = 1) && decide (w.2.1 ≠ 11)) || decide (w.1 = 2)
def readsV (w : W5) (dst src : Int) : List Int :=
  if w.1 = 9 then [0] else if readsB w = true ∧ (fieldsV w).2.2.1 = true ∧ dst ≠ src then [mn dst src, mx dst src]
  else if readsB w = true then [dst] else if (fieldsV w).2.2.1 = true then [src] else []
def writesV (w : W5) (dst : Int) : Int := if w.1 = 8 then 0 else if (fieldsV w).2.1 = true then dst else -1
def placesV (w : W5) : Int := if w.1 = 10 ∨ w.1 = 11 then 2 else 1
theorem Reads_eq {op dst src off imm : Int} (k : Nat) (h0 : 0 ≤ op) (h1 : op ≤ 255) (d0 : 0 ≤ dst) (d1 : dst ≤ 255) (s0 : 0 ≤ src) (s1 : src ≤ 255) (i0 : -2147483648 ≤ imm) (i1 : imm ≤ 2147483647) :
    insn_Reads.f (k + 4) op dst src off imm = some (if (ofV op dst src off imm).2.2.2.2.2 = 0 then readsV (kindV op src imm) dst src else []) := by
  have ed : wrap64 dst = dst := fitW (by omega) (by omega)
  have es : wrap64 src = src := fitW (by omega) (by omega)
  unfold insn_Reads.f
  rw [Of_eq k h0 h1 s0 s1 i0 i1, Option.bind_some]
  by_cases he : (ofV op dst src off imm).2.2.2.2.2 = 0
  · rw [if_pos he, if_pos he, (of_ok he).1]
    generalize kindV op src imm = w
    obtain ⟨a, b, c, d, e⟩ := w
    unfold kOf readsV readsB
    dsimp only
    rw [show k + 4 = (k + 3) + 1 from rfl, fields_eq]
    generalize fieldsV (a, b, c, d, e) = g
    obtain ⟨g1, g2, g3, g4, g5⟩ := g
    simp only [Option.bind_some, insn_Reads.j0, ed, es, show k + 3 = (k + 2) + 1 from rfl, insn_Reads.j1]
    by_cases c9 : a = 9
    · rw [if_pos c9, if_pos c9]
    rw [if_neg c9, if_neg c9]
    by_cases c1 : a = 1
    · subst c1
      by_cases c11 : b = 11 <;> by_cases hx : dst = src <;> cases g1 <;> cases g2 <;> cases g3 <;> simp [c11, hx, bne]
    · by_cases c2 : a = 2
      · subst c2
        by_cases hx : dst = src <;> cases g1 <;> cases g2 <;> cases g3 <;> simp [hx, bne]
      · by_cases hx : dst = src <;> cases g1 <;> cases g2 <;> cases g3 <;> simp [c1, c2, hx, bne]
  · rw [if_neg he, if_neg he]
theorem Writes_eq {op dst src off imm : Int} (k : Nat) (h0 : 0 ≤ op) (h1 : op ≤ 255) (d0 : 0 ≤ dst) (d1 : dst ≤ 255) (s0 : 0 ≤ src) (s1 : src ≤ 255) (i0 : -2147483648 ≤ imm) (i1 : imm ≤ 2147483647) :
    insn_Writes.f (k + 4) op dst src off imm = some (if (ofV op dst src off imm).2.2.2.2.2 = 0 then writesV (kindV op src imm) dst else -1) := by
  have ed : wrap64 dst = dst := fitW (by omega) (by omega)
  unfold insn_Writes.f
  rw [Of_eq k h0 h1 s0 s1 i0 i1, Option.bind_some]
  by_cases he : (ofV op dst src off imm).2.2.2.2.2 = 0
  · rw [if_pos he, if_pos he, (of_ok he).1]
    unfold kOf writesV
    dsimp only
    rw [show k + 4 = (k + 3) + 1 from rfl, fields_eq, ed, Option.bind_some]
    repeat' split
    all_goals rfl
  · rw [if_neg he, if_neg he]
theorem Places_eq {op dst src off imm : Int} (k : Nat) (h0 : 0 ≤ op) (h1 : op ≤ 255) (s0 : 0 ≤ src) (s1 : src ≤ 255) (i0 : -2147483648 ≤ imm) (i1 : imm ≤ 2147483647) :
    insn_Places.f (k + 4) op dst src off imm = some (if (ofV op dst src off imm).2.2.2.2.2 = 0 then placesV (kindV op src imm) else 0) := by
  unfold insn_Places.f
  rw [Of_eq k h0 h1 s0 s1 i0 i1, Option.bind_some]
  by_cases he : (ofV op dst src off imm).2.2.2.2.2 = 0
  · rw [if_pos he, if_pos he, (of_ok he).1]
    unfold kOf placesV
    dsimp only
    by_cases c1 : (kindV op src imm).1 = 10 <;> by_cases c2 : (kindV op src imm).1 = 11 <;> simp [c1, c2]
  · rw [if_neg he, if_neg he]
end Go.Proofs.YtkojjjdeacdabaaDoor.Pure
