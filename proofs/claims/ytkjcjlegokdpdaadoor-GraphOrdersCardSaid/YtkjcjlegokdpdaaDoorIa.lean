/- Chapter 02: what kind, fields and Of come to, in plain terms. -/
import Derived.Test.YtkjcjlegokdpdaaDoorPx3
import Derived.Test.YtkjcjlegokdpdaaDoorPx4
import Derived.Laws.BitsAllLaws
namespace Go.Proofs.YtkjcjlegokdpdaaDoor.Pure
open Go.RowKit Go.Proofs.YtkjcjlegokdpdaaDoorW.PrintWords Go.Proofs.YtkjcjlegokdpdaaDoorW.PrintLast Go.Proofs.YtkjcjlegokdpdaaDoorW.PrintMore Go.Proofs.YtkjcjlegokdpdaaDoor.P
set_option linter.unusedVariables false
set_option linter.unusedSimpArgs false

abbrev W5 := Int × Int × Int × Bool × Bool
def zeroV : W5 := (0, 0, 0, false, false)
def condB (n : Int) : Bool := decide (1 ≤ n ∧ n ≤ 7 ∨ 10 ≤ n ∧ n ≤ 13)
def jumpV (op : Int) : W5 :=
  if condB (op / 16) = true then (6, op / 16, 0, decide (op % 8 = 5), decide (op / 8 % 2 = 1))
  else if op = 5 then (7, 0, 0, false, false) else if op = 133 then (8, 0, 0, false, false) else if op = 149 then (9, 0, 0, false, false) else zeroV
def sizeV (n : Int) : Int := if n = 0 then 4 else if n = 1 then 2 else if n = 2 then 1 else 8
def classV (n : Int) : Int := if n = 1 then 3 else if n = 2 then 5 else 4
/-- What an instruction is by its Op (and the Src of 18, the Imm of d7). -/
def kindV (op src imm : Int) : W5 :=
  if op % 8 = 4 ∨ op % 8 = 7 then
    if op = 215 ∧ (imm = 16 ∨ imm = 32 ∨ imm = 64) then (2, 0, imm / 8, false, false)
    else if op / 16 ≤ 12 ∧ ¬ (op / 16 = 8 ∧ op / 8 % 2 = 1) then (1, op / 16, 0, decide (op % 8 = 7), decide (op / 8 % 2 = 1)) else zeroV
  else if op % 8 = 5 ∨ op % 8 = 6 then jumpV op
  else if op % 8 = 0 then (if op = 24 ∧ src < 2 then (10 + src, 0, 0, false, false) else zeroV)
  else if op / 32 = 3 then (classV (op % 4), 0, sizeV (op / 8 % 4), false, false) else zeroV
theorem b7 {op : Int} (h0 : 0 ≤ op) (h1 : op ≤ 255) : Go.bits .and .u8 op 7 = op % 8 := u8_and7 op h0 (by omega)
theorem b3 {op : Int} (h0 : 0 ≤ op) (h1 : op ≤ 255) : Go.bits .and .u8 op 3 = op % 4 := by
  rw [u8_and op 3 h0 (by omega) (by omega) (by omega), show ((3 : Int)).toNat = 3 from rfl, nat_mask2]; omega
theorem b8 {op : Int} (h0 : 0 ≤ op) (h1 : op ≤ 255) : (Go.bits .and .u8 op 8 != 0) = decide (op / 8 % 2 = 1) := by
  obtain ⟨n, rfl⟩ := Int.eq_ofNat_of_zero_le h0
  have h : ∀ n : Fin 256, (Go.bits .and .u8 (n.val : Int) 8 != 0) = decide ((n.val : Int) / 8 % 2 = 1) := by decide +kernel
  exact h ⟨n, by omega⟩
theorem fitW {a : Int} (h0 : -9223372036854775808 ≤ a) (h1 : a ≤ 9223372036854775807) : wrap64 a = a := by unfold wrap64; omega
theorem cond_eq (n : Int) : insn_cond.f n = some (condB n) := by
  unfold insn_cond.f condB
  repeat' split
  all_goals (simp only [Option.some.injEq, decide_eq_decide]; first | omega | (simp only [eq_comm (a := true), eq_comm (a := false), decide_eq_true_eq, decide_eq_false_iff_not]; omega))
theorem jump_eq {op : Int} (h0 : 0 ≤ op) (h1 : op ≤ 255) : insn_jump.f op (op / 16) (decide (op / 8 % 2 = 1)) = some (jumpV op) := by
  have e : (op % 8 == 5) = decide (op % 8 = 5) := rfl
  simp only [insn_jump.f, cond_eq, Option.bind_some, b7 h0 h1, jumpV, e, zeroV]
  repeat' split
  all_goals simp_all
theorem kind_eq {op dst src off imm : Int} (k : Nat) (h0 : 0 ≤ op) (h1 : op ≤ 255) (s0 : 0 ≤ src) (s1 : src ≤ 255) (i0 : -2147483648 ≤ imm) (i1 : imm ≤ 2147483647) :
    insn_kind.f (k + 4) op dst src off imm = some (kindV op src imm) := by
  have e8 : Go.bits .and .u8 (op / 8) 3 = op / 8 % 4 := b3 (by omega) (by omega)
  have ew : wrap64 (op / 16) = op / 16 := fitW (by omega) (by omega)
  have ei : wrap64 imm = imm := fitW (by omega) (by omega)
  have es : wrap64 src = src := fitW (by omega) (by omega)
  have es' : wrap64 (10 + src) = 10 + src := fitW (by omega) (by omega)
  have rdg : ∀ n : Int, 0 ≤ n → n < 4 → rd gl0 n = sizeV n := by
    intro n n0 n4
    have : n = 0 ∨ n = 1 ∨ n = 2 ∨ n = 3 := by omega
    rcases this with rfl | rfl | rfl | rfl <;> decide +kernel
  have rdc : op % 4 = 1 ∨ op % 4 = 2 ∨ op % 4 = 3 → rdOf (0 : Int) ([0, 3, 5, 4] : List Int) (op % 4) = classV (op % 4) := by
    rintro (h | h | h) <;> rw [h] <;> decide +kernel
  have hm : op % 8 = 0 ∨ op % 8 = 1 ∨ op % 8 = 2 ∨ op % 8 = 3 ∨ op % 8 = 4 ∨ op % 8 = 5 ∨ op % 8 = 6 ∨ op % 8 = 7 := by omega
  unfold insn_kind.f insn_kind.j0 insn_kind.j1 insn_kind.j2 insn_kind.j3
  simp only [b7 h0 h1, b3 h0 h1, b8 h0 h1, e8, ew, ei, es, es', jump_eq h0 h1]
  rcases hm with h | h | h | h | h | h | h | h
  · simp [h, kindV, zeroV]
    repeat' split
    all_goals simp_all
  · simp [h, kindV, zeroV, rdc (by omega), rdg (op / 8 % 4) (by omega) (by omega), show 0 ≤ op % 4 by omega, show op % 4 < 4 by omega, show 0 ≤ op / 8 % 4 by omega, show op / 8 % 4 < 4 by omega]
    split <;> rfl
  · simp [h, kindV, zeroV, rdc (by omega), rdg (op / 8 % 4) (by omega) (by omega), show 0 ≤ op % 4 by omega, show op % 4 < 4 by omega, show 0 ≤ op / 8 % 4 by omega, show op / 8 % 4 < 4 by omega]
    split <;> rfl
  · simp [h, kindV, zeroV, rdc (by omega), rdg (op / 8 % 4) (by omega) (by omega), show 0 ≤ op % 4 by omega, show op % 4 < 4 by omega, show 0 ≤ op / 8 % 4 by omega, show op / 8 % 4 < 4 by omega]
    split <;> rfl
  · simp [h, kindV, zeroV]
    repeat' split
    all_goals (try simp_all)
    all_goals (try omega)
  · simp [h, kindV, zeroV]
  · simp [h, kindV, zeroV]
  · have t1 : wrap64 (Int.tdiv 16 8) = 2 := by decide +kernel
    have t2 : wrap64 (Int.tdiv 32 8) = 4 := by decide +kernel
    have t3 : wrap64 (Int.tdiv 64 8) = 8 := by decide +kernel
    simp [h, kindV, zeroV]
    repeat' split
    all_goals (try simp_all)
    all_goals (try omega)
def fieldsV (w : W5) : Bool × Bool × Bool × Bool × Bool :=
  if w.1 = 1 then (true, true, w.2.2.2.2, false, !w.2.2.2.2 && decide (w.2.1 ≠ 8))
  else if w.1 = 2 ∨ w.1 = 10 ∨ w.1 = 11 then (true, true, false, false, true)
  else if w.1 = 3 then (true, true, true, true, false)
  else if w.1 = 4 then (true, false, true, true, false)
  else if w.1 = 5 then (true, false, false, true, true)
  else if w.1 = 6 then (true, false, w.2.2.2.2, true, !w.2.2.2.2)
  else if w.1 = 7 then (false, false, false, true, false)
  else if w.1 = 8 then (false, false, false, false, true)
  else (false, false, false, false, false)
theorem fields_eq (k : Nat) (a b c : Int) (d e : Bool) : insn_fields.f (k + 1) a b c d e = some (fieldsV (a, b, c, d, e)) := by
  unfold insn_fields.f insn_fields.j0 fieldsV
  by_cases c1 : a = 1
  · subst c1; cases e <;> simp [bne]
    by_cases c : b = 8 <;> simp [c]
  by_cases c2 : a = 2
  · subst c2; simp
  by_cases c3 : a = 10
  · subst c3; simp
  by_cases c4 : a = 11
  · subst c4; simp
  by_cases c5 : a = 3
  · subst c5; simp
  by_cases c6 : a = 4
  · subst c6; simp
  by_cases c7 : a = 5
  · subst c7; simp
  by_cases c8 : a = 6
  · subst c8; simp
  by_cases c9 : a = 7
  · subst c9; simp
  by_cases c10 : a = 8
  · subst c10; simp
  simp [c1, c2, c3, c4, c5, c6, c7, c8, c9, c10]
/-- What Of answers. -/
def ofV (op dst src off imm : Int) : Int × Int × Int × Bool × Bool × Int :=
  let w := kindV op src imm
  let f := fieldsV w
  if w.1 = 0 then (0, 0, 0, false, false, 20)
  else if f.1 = true ∧ dst > 10 ∨ f.2.1 = true ∧ dst = 10 ∨ f.2.2.1 = true ∧ src > 10 then (0, 0, 0, false, false, 21)
  else if f.1 = false ∧ dst ≠ 0 ∨ f.2.2.1 = false ∧ src ≠ 0 ∧ w.1 ≠ 11 ∨ f.2.2.2.1 = false ∧ off ≠ 0 ∨ f.2.2.2.2 = false ∧ imm ≠ 0 then (0, 0, 0, false, false, 22)
  else (w.1, w.2.1, w.2.2.1, w.2.2.2.1, w.2.2.2.2, 0)
end Go.Proofs.YtkjcjlegokdpdaaDoor.Pure
