/- The law AsmKnown holds: the chapter's rows are computed by the kernel; as many places as there may be, and one more, by the laws of the text. -/
-- in one
import Derived.Test.YtondogoepcndiaaDoorPx6
import Derived.Test.YtondogoepcndiaaDoorPx4
import Derived.Test.YtondogoepcndiaaDoorPx5
import Derived.Laws.BitsAllLaws
import Derived.Test.YtondogoepcndiaaDoorNu
import Derived.Lib.ItoaNum
import Derived.Lib.ParseIntB
import Derived.Lib.SplitLaws
import Derived.Lib.Index
import Derived.Lib.IndexMore
import Derived.Test.YtondogoepcndiaaDoorPx9
import Derived.Test.YtondogoepcndiaaDoorPx19
import Derived.Test.YtondogoepcndiaaDoorPx10
import Derived.Test.YtondogoepcndiaaDoorPx20
import Derived.Test.YtondogoepcndiaaDoorPx21
import Derived.Test.YtondogoepcndiaaDoorOs
import Derived.Test.YtondogoepcndiaaDoorPx35
/- Chapter 03: what kind, fields and Of come to, in plain terms. -/
namespace Go.Proofs.YtondogoepcndiaaDoor.Pure
open Go.RowKit Go.Proofs.YtondogoepcndiaaDoorW.PrintWords Go.Proofs.YtondogoepcndiaaDoorW.PrintLast Go.Proofs.YtondogoepcndiaaDoorW.PrintMore Go.Proofs.YtondogoepcndiaaDoor.P
set_option linter.unusedVariables false
set_option linter.unusedSimpArgs false

abbrev W5 := Int × Int × Int × Bool × Bool
def zeroV : W5 := (0, 0, 0, false, false)
def condB (n : Int) : Bool := decide (1 ≤ n ∧ n ≤ 7 ∨ 10 ≤ n ∧ n ≤ 13)
def jumpV (op : Int) : W5 :=
  if condB (op / 16) = true then (6, op / 16, 0, decide (op % 8 = 5), decide (op / 8 % 2 = 1))
  else if op = 5 then (7, 0, 0, false, false) else if op = 133 then (8, 0, 0, false, false) else if op = 149 then (9, 0, 0, false, false) else zeroV
def sizeV (n : Int) : Int := if n = 0 then 4 else if n = 1 then 2 else if n = 2 then 1 else 8
def classV (n : Int) : Int := if n = 1 then 3 else if n = 2 then 5 else 4
/-- What an instruction is by its Op (and the Src of 18, the Imm of d7). -/
def kindV (op src imm : Int) : W5 :=
  if op % 8 = 4 ∨ op % 8 = 7 then
    if op = 215 ∧ (imm = 16 ∨ imm = 32 ∨ imm = 64) then (2, 0, imm / 8, false, false)
    else if op / 16 ≤ 12 ∧ ¬ (op / 16 = 8 ∧ op / 8 % 2 = 1) then (1, op / 16, 0, decide (op % 8 = 7), decide (op / 8 % 2 = 1)) else zeroV
  else if op % 8 = 5 ∨ op % 8 = 6 then jumpV op
  else if op % 8 = 0 then (if op = 24 ∧ src < 2 then (10 + src, 0, 0, false, false) else zeroV)
  else if op / 32 = 3 then (classV (op % 4), 0, sizeV (op / 8 % 4), false, false) else zeroV
theorem b7 {op : Int} (h0 : 0 ≤ op) (h1 : op ≤ 255) : Go.bits .and .u8 op 7 = op % 8 := u8_and7 op h0 (by omega)
theorem b3 {op : Int} (h0 : 0 ≤ op) (h1 : op ≤ 255) : Go.bits .and .u8 op 3 = op % 4 := by
  rw [u8_and op 3 h0 (by omega) (by omega) (by omega), show ((3 : Int)).toNat = 3 from rfl, nat_mask2]; omega
theorem b8 {op : Int} (h0 : 0 ≤ op) (h1 : op ≤ 255) : (Go.bits .and .u8 op 8 != 0) = decide (op / 8 % 2 = 1) := by
  obtain ⟨n, rfl⟩ := Int.eq_ofNat_of_zero_le h0
  have h : ∀ n : Fin 256, (Go.bits .and .u8 (n.val : Int) 8 != 0) = decide ((n.val : Int) / 8 % 2 = 1) := by decide +kernel
  exact h ⟨n, by omega⟩
theorem fitW {a : Int} (h0 : -9223372036854775808 ≤ a) (h1 : a ≤ 9223372036854775807) : wrap64 a = a := by unfold wrap64; omega
theorem cond_eq (n : Int) : insn_cond.f n = some (condB n) := by
  unfold insn_cond.f condB
  repeat' split
  all_goals (simp only [Option.some.injEq, decide_eq_decide]; first | omega | (simp only [eq_comm (a := true), eq_comm (a := false), decide_eq_true_eq, decide_eq_false_iff_not]; omega))
theorem jump_eq {op : Int} (h0 : 0 ≤ op) (h1 : op ≤ 255) : insn_jump.f op (op / 16) (decide (op / 8 % 2 = 1)) = some (jumpV op) := by
  have e : (op % 8 == 5) = decide (op % 8 = 5) := rfl
  simp only [insn_jump.f, cond_eq, Option.bind_some, b7 h0 h1, jumpV, e, zeroV]
  repeat' split
  all_goals simp_all
theorem kind_eq {op dst src off imm : Int} (k : Nat) (h0 : 0 ≤ op) (h1 : op ≤ 255) (s0 : 0 ≤ src) (s1 : src ≤ 255) (i0 : -2147483648 ≤ imm) (i1 : imm ≤ 2147483647) :
    insn_kind.f (k + 4) op dst src off imm = some (kindV op src imm) := by
  have e8 : Go.bits .and .u8 (op / 8) 3 = op / 8 % 4 := b3 (by omega) (by omega)
  have ew : wrap64 (op / 16) = op / 16 := fitW (by omega) (by omega)
  have ei : wrap64 imm = imm := fitW (by omega) (by omega)
  have es : wrap64 src = src := fitW (by omega) (by omega)
  have es' : wrap64 (10 + src) = 10 + src := fitW (by omega) (by omega)
  have rdg : ∀ n : Int, 0 ≤ n → n < 4 → rd gl2 n = sizeV n := by
    intro n n0 n4
    have : n = 0 ∨ n = 1 ∨ n = 2 ∨ n = 3 := by omega
    rcases this with rfl | rfl | rfl | rfl <;> decide +kernel
  have rdc : op % 4 = 1 ∨ op % 4 = 2 ∨ op % 4 = 3 → rdOf (0 : Int) ([0, 3, 5, 4] : List Int) (op % 4) = classV (op % 4) := by
    rintro (h | h | h) <;> rw [h] <;> decide +kernel
  have hm : op % 8 = 0 ∨ op % 8 = 1 ∨ op % 8 = 2 ∨ op % 8 = 3 ∨ op % 8 = 4 ∨ op % 8 = 5 ∨ op % 8 = 6 ∨ op % 8 = 7 := by omega
  unfold insn_kind.f insn_kind.j0 insn_kind.j1 insn_kind.j2 insn_kind.j3
  simp only [b7 h0 h1, b3 h0 h1, b8 h0 h1, e8, ew, ei, es, es', jump_eq h0 h1]
  rcases hm with h | h | h | h | h | h | h | h
  · simp [h, kindV, zeroV]
    repeat' split
    all_goals simp_all
  · simp [h, kindV, zeroV, rdc (by omega), rdg (op / 8 % 4) (by omega) (by omega), show 0 ≤ op % 4 by omega, show op % 4 < 4 by omega, show 0 ≤ op / 8 % 4 by omega, show op / 8 % 4 < 4 by omega]
    split <;> rfl
  · simp [h, kindV, zeroV, rdc (by omega), rdg (op / 8 % 4) (by omega) (by omega), show 0 ≤ op % 4 by omega, show op % 4 < 4 by omega, show 0 ≤ op / 8 % 4 by omega, show op / 8 % 4 < 4 by omega]
    split <;> rfl
  · simp [h, kindV, zeroV, rdc (by omega), rdg (op / 8 % 4) (by omega) (by omega), show 0 ≤ op % 4 by omega, show op % 4 < 4 by omega, show 0 ≤ op / 8 % 4 by omega, show op / 8 % 4 < 4 by omega]
    split <;> rfl
  · simp [h, kindV, zeroV]
    repeat' split
    all_goals (try simp_all)
    all_goals (try omega)
  · simp [h, kindV, zeroV]
  · simp [h, kindV, zeroV]
  · have t1 : wrap64 (Int.tdiv 16 8) = 2 := by decide +kernel
    have t2 : wrap64 (Int.tdiv 32 8) = 4 := by decide +kernel
    have t3 : wrap64 (Int.tdiv 64 8) = 8 := by decide +kernel
    simp [h, kindV, zeroV]
    repeat' split
    all_goals (try simp_all)
    all_goals (try omega)
def fieldsV (w : W5) : Bool × Bool × Bool × Bool × Bool :=
  if w.1 = 1 then (true, true, w.2.2.2.2, false, !w.2.2.2.2 && decide (w.2.1 ≠ 8))
  else if w.1 = 2 ∨ w.1 = 10 ∨ w.1 = 11 then (true, true, false, false, true)
  else if w.1 = 3 then (true, true, true, true, false)
  else if w.1 = 4 then (true, false, true, true, false)
  else if w.1 = 5 then (true, false, false, true, true)
  else if w.1 = 6 then (true, false, w.2.2.2.2, true, !w.2.2.2.2)
  else if w.1 = 7 then (false, false, false, true, false)
  else if w.1 = 8 then (false, false, false, false, true)
  else (false, false, false, false, false)
theorem fields_eq (k : Nat) (a b c : Int) (d e : Bool) : insn_fields.f (k + 1) a b c d e = some (fieldsV (a, b, c, d, e)) := by
  unfold insn_fields.f insn_fields.j0 fieldsV
  by_cases c1 : a = 1
  · subst c1; cases e <;> simp [bne]
    by_cases c : b = 8 <;> simp [c]
  by_cases c2 : a = 2
  · subst c2; simp
  by_cases c3 : a = 10
  · subst c3; simp
  by_cases c4 : a = 11
  · subst c4; simp
  by_cases c5 : a = 3
  · subst c5; simp
  by_cases c6 : a = 4
  · subst c6; simp
  by_cases c7 : a = 5
  · subst c7; simp
  by_cases c8 : a = 6
  · subst c8; simp
  by_cases c9 : a = 7
  · subst c9; simp
  by_cases c10 : a = 8
  · subst c10; simp
  simp [c1, c2, c3, c4, c5, c6, c7, c8, c9, c10]
/-- What Of answers. -/
def ofV (op dst src off imm : Int) : Int × Int × Int × Bool × Bool × Int :=
  let w := kindV op src imm
  let f := fieldsV w
  if w.1 = 0 then (0, 0, 0, false, false, 20)
  else if f.1 = true ∧ dst > 10 ∨ f.2.1 = true ∧ dst = 10 ∨ f.2.2.1 = true ∧ src > 10 then (0, 0, 0, false, false, 21)
  else if f.1 = false ∧ dst ≠ 0 ∨ f.2.2.1 = false ∧ src ≠ 0 ∧ w.1 ≠ 11 ∨ f.2.2.2.1 = false ∧ off ≠ 0 ∨ f.2.2.2.2 = false ∧ imm ≠ 0 then (0, 0, 0, false, false, 22)
  else (w.1, w.2.1, w.2.2.1, w.2.2.2.1, w.2.2.2.2, 0)
end Go.Proofs.YtondogoepcndiaaDoor.Pure

/- Chapter 03: what the program's Of answers. -/
namespace Go.Proofs.YtondogoepcndiaaDoor.Pure
open Go.RowKit Go.Proofs.YtondogoepcndiaaDoorW.PrintWords Go.Proofs.YtondogoepcndiaaDoorW.PrintLast Go.Proofs.YtondogoepcndiaaDoorW.PrintMore Go.Proofs.YtondogoepcndiaaDoor.P
set_option linter.unusedVariables false
set_option linter.unusedSimpArgs false

set_option maxHeartbeats 4000000 in
theorem Of_eq {op dst src off imm : Int} (k : Nat) (h0 : 0 ≤ op) (h1 : op ≤ 255) (s0 : 0 ≤ src) (s1 : src ≤ 255) (i0 : -2147483648 ≤ imm) (i1 : imm ≤ 2147483647) :
    insn_Of.f (k + 4) op dst src off imm = some (ofV op dst src off imm) := by
  unfold insn_Of.f
  rw [kind_eq k h0 h1 s0 s1 i0 i1]
  obtain ⟨a, b, c, d, e, hk⟩ : ∃ a b c d e, kindV op src imm = (a, b, c, d, e) := ⟨_, _, _, _, _, rfl⟩
  have hz : kindV op src imm = zeroV ∨ (kindV op src imm).1 ≠ 0 := by
    unfold kindV jumpV classV
    repeat' split
    all_goals first | exact .inl rfl | (right; simp; done) | (right; simp; omega)
  simp only [Option.bind_some, hk, ofV] at hz ⊢
  rw [show k + 4 = (k + 3) + 1 from rfl, fields_eq]
  generalize fieldsV (a, b, c, d, e) = g
  obtain ⟨g1, g2, g3, g4, g5⟩ := g
  unfold insn_Of.j0
  by_cases ha : a = 0
  · have := hz.resolve_right (by simp [ha])
    simp only [zeroV, Prod.mk.injEq] at this
    obtain ⟨rfl, rfl, rfl, rfl, rfl⟩ := this
    simp
  · simp only [Option.bind_some, ha, if_false]
    have hc : (a == 0 && (b == 0 && (c == 0 && (!d && !e)))) = false := by simp [ha]
    simp only [hc]
    have h10 : dst > 10 → ¬ dst = 0 := by omega
    have h11 : dst = 10 → ¬ dst = 0 := by omega
    have h12 : src > 10 → ¬ src = 0 := by omega
    clear hc hz hk ha h0 h1 s0 s1 i0 i1
    cases g1 <;> cases g2 <;> cases g3 <;> cases g4 <;> cases g5 <;> simp (config := { decide := true }) only [if_true, if_false, Bool.false_eq_true, reduceIte, true_and, false_and, false_or, or_false, and_true, and_false, ne_eq, bne_iff_ne, decide_eq_true_eq, reduceCtorEq]
    all_goals (repeat' split)
    all_goals (first | rfl | (exfalso; omega) | simp_all)
end Go.Proofs.YtondogoepcndiaaDoor.Pure

/- Chapter 03: what an instruction may be: the rows; what is some instruction's is some row's. -/
namespace Go.Proofs.YtondogoepcndiaaDoor.Pure
open Go.RowKit Go.Proofs.YtondogoepcndiaaDoorW.PrintWords Go.Proofs.YtondogoepcndiaaDoorW.PrintLast Go.Proofs.YtondogoepcndiaaDoorW.PrintMore Go.Proofs.YtondogoepcndiaaDoor.P
set_option linter.unusedVariables false
set_option linter.unusedSimpArgs false

def B (x : Int) : Prop := 0 ≤ x ∧ x ≤ 255
instance (x : Int) : Decidable (B x) := by unfold B; infer_instance
def rowsW : List W5 := [
  (1, 0, 0, false, false), (1, 0, 0, true, false), (1, 0, 0, false, true), (1, 0, 0, true, true), (1, 1, 0, false, false), (1, 1, 0, true, false),
  (1, 1, 0, false, true), (1, 1, 0, true, true), (1, 2, 0, false, false), (1, 2, 0, true, false), (1, 2, 0, false, true), (1, 2, 0, true, true),
  (1, 3, 0, false, false), (1, 3, 0, true, false), (1, 3, 0, false, true), (1, 3, 0, true, true), (1, 4, 0, false, false), (1, 4, 0, true, false),
  (1, 4, 0, false, true), (1, 4, 0, true, true), (1, 5, 0, false, false), (1, 5, 0, true, false), (1, 5, 0, false, true), (1, 5, 0, true, true),
  (1, 6, 0, false, false), (1, 6, 0, true, false), (1, 6, 0, false, true), (1, 6, 0, true, true), (1, 7, 0, false, false), (1, 7, 0, true, false),
  (1, 7, 0, false, true), (1, 7, 0, true, true), (1, 8, 0, false, false), (1, 8, 0, true, false), (1, 9, 0, false, false), (1, 9, 0, true, false),
  (1, 9, 0, false, true), (1, 9, 0, true, true), (1, 10, 0, false, false), (1, 10, 0, true, false), (1, 10, 0, false, true), (1, 10, 0, true, true),
  (1, 11, 0, false, false), (1, 11, 0, true, false), (1, 11, 0, false, true), (1, 11, 0, true, true), (1, 12, 0, false, false), (1, 12, 0, true, false),
  (1, 12, 0, false, true), (1, 12, 0, true, true), (2, 0, 2, false, false), (2, 0, 4, false, false), (2, 0, 8, false, false), (3, 0, 4, false, false),
  (5, 0, 4, false, false), (4, 0, 4, false, false), (3, 0, 2, false, false), (5, 0, 2, false, false), (4, 0, 2, false, false), (3, 0, 1, false, false),
  (5, 0, 1, false, false), (4, 0, 1, false, false), (3, 0, 8, false, false), (5, 0, 8, false, false), (4, 0, 8, false, false), (6, 1, 0, true, false),
  (6, 1, 0, false, false), (6, 1, 0, true, true), (6, 1, 0, false, true), (6, 2, 0, true, false), (6, 2, 0, false, false), (6, 2, 0, true, true),
  (6, 2, 0, false, true), (6, 3, 0, true, false), (6, 3, 0, false, false), (6, 3, 0, true, true), (6, 3, 0, false, true), (6, 4, 0, true, false),
  (6, 4, 0, false, false), (6, 4, 0, true, true), (6, 4, 0, false, true), (6, 5, 0, true, false), (6, 5, 0, false, false), (6, 5, 0, true, true),
  (6, 5, 0, false, true), (6, 6, 0, true, false), (6, 6, 0, false, false), (6, 6, 0, true, true), (6, 6, 0, false, true), (6, 7, 0, true, false),
  (6, 7, 0, false, false), (6, 7, 0, true, true), (6, 7, 0, false, true), (6, 10, 0, true, false), (6, 10, 0, false, false), (6, 10, 0, true, true),
  (6, 10, 0, false, true), (6, 11, 0, true, false), (6, 11, 0, false, false), (6, 11, 0, true, true), (6, 11, 0, false, true), (6, 12, 0, true, false),
  (6, 12, 0, false, false), (6, 12, 0, true, true), (6, 12, 0, false, true), (6, 13, 0, true, false), (6, 13, 0, false, false), (6, 13, 0, true, true),
  (6, 13, 0, false, true), (7, 0, 0, false, false), (8, 0, 0, false, false), (9, 0, 0, false, false), (10, 0, 0, false, false), (11, 0, 0, false, false)]
def IsRow (w : W5) : Prop := w ∈ rowsW
theorem isRow_all {p : W5 → Bool} (h : rowsW.all p = true) {w : W5} (hw : IsRow w) : p w = true := List.all_eq_true.1 h w hw
theorem kind_any {op : Int} (h1 : op ≠ 24) (h2 : op ≠ 215) (s i : Int) : kindV op s i = kindV op 0 0 := by
  unfold kindV; simp [h1, h2]
theorem kind_24 (s i : Int) : kindV 24 s i = kindV 24 s 0 := by unfold kindV; simp
theorem kind_215 (s i : Int) : kindV 215 s i = kindV 215 0 i := by unfold kindV; simp
/-- What is some instruction's is some row's. -/
theorem kind_row {op s i : Int} (ho : B op) (hs : B s) : kindV op s i = zeroV ∨ IsRow (kindV op s i) := by
  unfold IsRow
  by_cases h1 : op = 24
  · subst h1
    rw [kind_24]
    by_cases s0 : s = 0
    · subst s0; right; decide +kernel
    by_cases s1 : s = 1
    · subst s1; right; decide +kernel
    · left; unfold kindV; have := hs.1; simp; omega
  by_cases h2 : op = 215
  · subst h2
    rw [kind_215]
    by_cases c1 : i = 16
    · subst c1; right; decide +kernel
    by_cases c2 : i = 32
    · subst c2; right; decide +kernel
    by_cases c3 : i = 64
    · subst c3; right; decide +kernel
    · left; unfold kindV; simp [c1, c2, c3]
  rw [kind_any h1 h2]
  have h : ∀ n : Fin 256, kindV (n.val : Int) 0 0 = zeroV ∨ kindV (n.val : Int) 0 0 ∈ rowsW := by decide +kernel
  obtain ⟨n, rfl⟩ := Int.eq_ofNat_of_zero_le ho.1
  exact h ⟨n, by have := ho.2; omega⟩
end Go.Proofs.YtondogoepcndiaaDoor.Pure

/- Chapter 03, plain: texts, digits, numbers; pieces of texts. No conditions but the ones each theorem names. -/
namespace Go.Proofs.YtondogoepcndiaaDoor.Pure
open Go.RowKit Go.Proofs.YtondogoepcndiaaDoorW.PrintWords Go.Proofs.YtondogoepcndiaaDoorW.PrintLast Go.Proofs.YtondogoepcndiaaDoorW.PrintMore Go.Proofs.YtondogoepcndiaaDoor.P
set_option linter.unusedVariables false
set_option linter.unusedSimpArgs false

/-! with rounds enough -/
theorem Ev.pure {α : Type} {r : α} : Ev (fun _ => some r) r := ⟨0, fun _ _ => rfl⟩
theorem Ev.eq_ {α : Type} {f : Nat → Option α} {r : α} (K0 : Nat) (h : ∀ K, f (K + K0) = some r) : Ev f r := ⟨K0, fun K hK => by have := h (K - K0); rwa [Nat.sub_add_cancel hK] at this⟩
theorem Ev.at_ {α : Type} {f : Nat → Option α} {r s : α} (h : Ev f r) {k : Nat} (m : ∀ k, LeO (f k) (f (k + 1))) (e : f k = some s) : s = r := by
  obtain ⟨K, hK⟩ := h
  have h1 := at_rounds m (Nat.le_max_left k K) e
  rw [hK _ (Nat.le_max_right k K)] at h1
  exact (Option.some.inj h1).symm
theorem Ev.bind_ {α β : Type} {f : Nat → Option α} {g : Nat → α → Option β} {a : α} {b : β} (hf : Ev f a) (hg : Ev (fun K => g K a) b) : Ev (fun K => (f K).bind (g K)) b := by
  obtain ⟨K0, h0⟩ := hf
  obtain ⟨K1, h1⟩ := hg
  exact ⟨max K0 K1, fun K h => by
    have e := h0 K (by omega)
    show (f K).bind (g K) = some b
    rw [e]; exact h1 K (by omega)⟩
theorem Ev.step_ {α : Type} {f g : Nat → Option α} {r : α} (h : ∀ K, f (K + 1) = g K) (hg : Ev g r) : Ev f r := by
  obtain ⟨K0, hK⟩ := hg
  refine ⟨K0 + 1, fun K h1 => ?_⟩
  obtain ⟨K', rfl⟩ : ∃ K', K = K' + 1 := ⟨K - 1, by omega⟩
  rw [h]; exact hK K' (by omega)
theorem Ev.eqn {α : Type} {f g : Nat → Option α} {r : α} (h : ∀ K, f K = g K) (hg : Ev g r) : Ev f r := by
  have : f = g := funext h
  rw [this]; exact hg
theorem w64 {n : Int} (h0 : -9223372036854775808 ≤ n) (h1 : n ≤ 9223372036854775807) : wrap64 n = n := by unfold wrap64; omega

/-! texts as lists -/
theorem mk_app (a b : List UInt8) : (⟨a.toArray⟩ : ByteArray) ++ ⟨b.toArray⟩ = ⟨(a ++ b).toArray⟩ := by
  have : (ByteArray.mk a.toArray ++ ByteArray.mk b.toArray).data = (a ++ b).toArray := by simp
  cases h : (ByteArray.mk a.toArray ++ ByteArray.mk b.toArray)
  rw [h] at this
  exact congrArg ByteArray.mk this
theorem mk_size (a : List UInt8) : (⟨a.toArray⟩ : ByteArray).size = a.length := by simp [ByteArray.size]
theorem mk_list (a : List UInt8) : (⟨a.toArray⟩ : ByteArray).toList = a := by rw [Lib.toList_data]
theorem eq_mk (s : ByteArray) : s = ⟨s.data.toList.toArray⟩ := rfl
theorem mk_inj {a b : List UInt8} (h : (⟨a.toArray⟩ : ByteArray) = ⟨b.toArray⟩) : a = b := by
  have := congrArg ByteArray.toList h
  rwa [mk_list, mk_list] at this
theorem extr (s : List UInt8) (a b : Nat) : (⟨s.toArray⟩ : ByteArray).extract a b = ⟨((s.drop a).take (b - a)).toArray⟩ := by
  rw [eq_mk ((⟨s.toArray⟩ : ByteArray).extract a b), Lib.extract_data]
theorem bt_get {s : List UInt8} {i : Nat} (h : i < s.length) : bt ⟨s.toArray⟩ (i : Int) = ((s[i].toNat : Nat) : Int) := by
  unfold bt
  have h2 : (i : Int).toNat < (⟨s.toArray⟩ : ByteArray).size := by rw [mk_size]; simpa using h
  rw [dif_pos h2]
  simp [ByteArray.getElem_eq_getElem_data]
theorem map_data_inj : ∀ {a b : List ByteArray}, a.map (·.data.toList) = b.map (·.data.toList) → a = b := by
  intro a
  induction a with
  | nil => intro b h; cases b with
    | nil => rfl
    | cons y b => simp at h
  | cons x a ih => intro b h; cases b with
    | nil => simp at h
    | cons y b =>
      simp only [List.map_cons, List.cons.injEq] at h
      rw [ih h.2, eq_mk x, eq_mk y, h.1]

/-! digits -/
def IsDig (c : UInt8) : Prop := 48 ≤ c.toNat ∧ c.toNat ≤ 57
instance (c : UInt8) : Decidable (IsDig c) := inferInstanceAs (Decidable (_ ∧ _))
theorem dig_ofNat {d : Nat} (h : d < 10) : (UInt8.ofNat (48 + d)).toNat = 48 + d := by
  rw [UInt8.toNat_ofNat']; omega
theorem dec_dig : ∀ (m n : Nat), n ≤ m → ∀ c ∈ Lib.decDigits n, IsDig c := by
  intro m
  induction m with
  | zero =>
    intro n hn c hc
    obtain rfl : n = 0 := by omega
    rw [Lib.decDigits_one (by omega)] at hc
    rw [List.mem_singleton.1 hc]
    exact ⟨by rw [dig_ofNat (by omega)]; omega, by rw [dig_ofNat (by omega)]; omega⟩
  | succ m ih =>
    intro n hn c hc
    rw [Lib.decDigits] at hc
    split at hc
    · rename_i h
      rw [List.mem_singleton.1 hc]
      exact ⟨by rw [dig_ofNat h]; omega, by rw [dig_ofNat h]; omega⟩
    · rename_i h
      rcases List.mem_append.1 hc with hc | hc
      · exact ih (n / 10) (by omega) c hc
      · rw [List.mem_singleton.1 hc]
        exact ⟨by rw [dig_ofNat (by omega)]; omega, by rw [dig_ofNat (by omega)]; omega⟩
theorem dec_digs (n : Nat) : ∀ c ∈ Lib.decDigits n, IsDig c := dec_dig _ _ (Nat.le_refl _)
def valF (acc : Nat) (l : List UInt8) : Nat := l.foldl (fun a c => a * 10 + (c.toNat - 48)) acc
theorem valF_cons (acc : Nat) (c : UInt8) (l : List UInt8) : valF acc (c :: l) = valF (acc * 10 + (c.toNat - 48)) l := by unfold valF; rw [List.foldl_cons]
theorem valF_snoc (acc : Nat) (l : List UInt8) (c : UInt8) : valF acc (l ++ [c]) = valF acc l * 10 + (c.toNat - 48) := by unfold valF; rw [List.foldl_append]; rfl
theorem valF_le : ∀ (l : List UInt8) (acc : Nat), acc ≤ valF acc l := by
  intro l
  induction l with
  | nil => intro acc; exact Nat.le_refl _
  | cons c l ih => intro acc; rw [valF_cons]; exact Nat.le_trans (by omega) (ih _)
theorem valF_dec' : ∀ (m n : Nat), n ≤ m → valF 0 (Lib.decDigits n) = n := by
  intro m
  induction m with
  | zero =>
    intro n hn
    obtain rfl : n = 0 := by omega
    rw [Lib.decDigits_one (by omega)]
    show 0 * 10 + ((UInt8.ofNat (48 + 0)).toNat - 48) = 0
    rw [dig_ofNat (by omega)]
  | succ m ih =>
    intro n hn
    rw [Lib.decDigits]
    split
    · rename_i h
      show 0 * 10 + ((UInt8.ofNat (48 + n)).toNat - 48) = n
      rw [dig_ofNat h]; omega
    · rename_i h
      rw [valF_snoc, ih (n / 10) (by omega), dig_ofNat (by omega)]; omega
theorem valF_dec (n : Nat) : valF 0 (Lib.decDigits n) = n := valF_dec' n n (Nat.le_refl _)
theorem dec_ne (n : Nat) : Lib.decDigits n ≠ [] := fun h => by
  have := Lib.nDigits_pos n
  rw [← Lib.decDigits_length, h] at this
  simp at this
theorem dec_head (n : Nat) : ∃ c t, Lib.decDigits n = c :: t ∧ IsDig c := by
  cases h : Lib.decDigits n with
  | nil => exact absurd h (dec_ne n)
  | cons c t => exact ⟨c, t, rfl, dec_digs n c (by rw [h]; exact List.mem_cons_self)⟩
theorem dec_len {n : Nat} (h1 : n < 18446744073709551616) : 1 ≤ (Lib.decDigits n).length ∧ (Lib.decDigits n).length ≤ 20 := by
  rw [Lib.decDigits_length]
  refine ⟨Lib.nDigits_pos _, ?_⟩
  have key : ∀ (k u : Nat), u < 10 ^ (k + 1) → Lib.nDigits u ≤ k + 1 := by
    intro k
    induction k with
    | zero => intro u hu; rw [Lib.nDigits_small (by simpa using hu)]; omega
    | succ k ih =>
      intro u hu
      by_cases hs : u < 10
      · rw [Lib.nDigits_small hs]; omega
      · rw [Lib.nDigits_big hs]
        have := ih (u / 10) (by rw [Nat.pow_succ] at hu; omega)
        omega
  exact key 19 n (by omega)
theorem itoa_pos {n : Int} (h : 0 ≤ n) : Lib.itoa n = Lib.decDigits n.toNat := by unfold Lib.itoa; rw [if_neg (by omega)]
theorem itoa_neg {n : Int} (h : n < 0) : Lib.itoa n = 45 :: Lib.decDigits n.natAbs := by unfold Lib.itoa; rw [if_pos h]
theorem itoa_len {n : Int} (h0 : -9223372036854775808 ≤ n) (h1 : n ≤ 9223372036854775807) : 1 ≤ (Lib.itoa n).length ∧ (Lib.itoa n).length ≤ 21 := by
  by_cases h : n < 0
  · rw [itoa_neg h, List.length_cons]
    have := dec_len (n := n.natAbs) (by omega)
    omega
  · rw [itoa_pos (by omega)]
    have := dec_len (n := n.toNat) (by omega)
    omega

/-! numbers read -/
theorem parse_val {M : Nat} (hM : M ≤ 18446744073709551615) : ∀ (l : List UInt8) (acc : Nat), (∀ c ∈ l, IsDig c) → valF acc l ≤ M → Lib.parseUintM M acc l = .ok (valF acc l) := by
  intro l
  induction l with
  | nil => intro acc _ _; rfl
  | cons c l ih =>
    intro acc hd hv
    have hc := hd c List.mem_cons_self
    rw [valF_cons] at hv ⊢
    have := valF_le l (acc * 10 + (c.toNat - 48))
    rw [Lib.parseUintM, if_pos (show 48 ≤ c.toNat ∧ c.toNat ≤ 57 from hc), if_neg (by omega), if_neg (by omega)]
    exact ih _ (fun x hx => hd x (List.mem_cons_of_mem _ hx)) hv
theorem parseU_dec {B n : Nat} (hB : 2 ^ B - 1 ≤ 18446744073709551615) (h : n ≤ 2 ^ B - 1) : Lib.parseUintB B (Lib.decDigits n) = .ok n := by
  unfold Lib.parseUintB
  rw [if_neg (dec_ne n), parse_val hB _ _ (dec_digs n) (by rw [valF_dec]; exact h), valF_dec]
theorem dig_not {c : UInt8} (h : IsDig c) : ¬ (c.toNat = 43 ∨ c.toNat = 45) := by have := h.1; omega
theorem parseI_pos {B u : Nat} (hB : 2 ^ B - 1 ≤ 18446744073709551615) (h : u < 2 ^ (B - 1)) (h2 : 2 ^ (B - 1) ≤ 2 ^ B - 1) : Lib.parseIntB B (Lib.decDigits u) = .ok (u : Int) := by
  have hu := parseU_dec hB (show u ≤ 2 ^ B - 1 by omega)
  obtain ⟨c, t, e, hc⟩ := dec_head u
  rw [e] at hu ⊢
  unfold Lib.parseIntB
  have hn := dig_not hc
  simp only [if_neg hn]
  rw [hu]
  simp only [(show ¬ c.toNat = 45 from fun h => hn (.inr h)), not_false_eq_true, true_and, false_and, if_false]
  rw [if_neg (by omega)]
theorem parseI_plus {B u : Nat} (hB : 2 ^ B - 1 ≤ 18446744073709551615) (h : u < 2 ^ (B - 1)) (h2 : 2 ^ (B - 1) ≤ 2 ^ B - 1) : Lib.parseIntB B (43 :: Lib.decDigits u) = .ok (u : Int) := by
  have hu := parseU_dec hB (show u ≤ 2 ^ B - 1 by omega)
  unfold Lib.parseIntB
  simp only [(show (43 : UInt8).toNat = 43 from rfl), true_or, if_true]
  rw [hu]
  simp only [(show ¬ (43 : Nat) = 45 by decide), not_false_eq_true, true_and, false_and, if_false]
  rw [if_neg (by omega)]
theorem parseI_neg {B u : Nat} (hB : 2 ^ B - 1 ≤ 18446744073709551615) (h : u ≤ 2 ^ (B - 1)) (h2 : 2 ^ (B - 1) ≤ 2 ^ B - 1) : Lib.parseIntB B (45 :: Lib.decDigits u) = .ok (-(u : Int)) := by
  have hu := parseU_dec hB (show u ≤ 2 ^ B - 1 by omega)
  unfold Lib.parseIntB
  simp only [(show (45 : UInt8).toNat = 45 from rfl), or_true, if_true]
  rw [hu]
  simp only [not_true_eq_false, true_and, false_and, if_false, if_true]
  rw [if_neg (by omega)]
theorem parseI_itoa {B : Nat} (hB : B = 8 ∨ B = 16 ∨ B = 32) {n : Int} (h0 : -(2 ^ (B - 1) : Nat) ≤ n) (h1 : n < (2 ^ (B - 1) : Nat)) : Lib.parseIntB B (Lib.itoa n) = .ok n := by
  have h2 : 2 ^ (B - 1) ≤ 2 ^ B - 1 ∧ 2 ^ B - 1 ≤ 18446744073709551615 := by rcases hB with rfl | rfl | rfl <;> decide
  by_cases h : n < 0
  · rw [itoa_neg h, parseI_neg h2.2 (by omega) h2.1]
    congr 1; omega
  · rw [itoa_pos (by omega), parseI_pos h2.2 (by omega) h2.1]
    congr 1; omega
theorem numF_itoa {B : Nat} (hB : B = 8 ∨ B = 16 ∨ B = 32) {n : Int} (h0 : -(2 ^ (B - 1) : Nat) ≤ n) (h1 : n < (2 ^ (B - 1) : Nat)) : numF B ⟨(Lib.itoa n).toArray⟩ = some n := by
  unfold numF
  rw [show (⟨(Lib.itoa n).toArray⟩ : ByteArray).data.toList = Lib.itoa n from rfl, parseI_itoa hB h0 h1]

/-! pieces -/
theorem occ_char {s sep : List UInt8} {i j : Nat} {c : UInt8} (h : Lib.occAt s sep j = true) (hc : sep[i]? = some c) : s[j + i]? = some c := by
  unfold Lib.occAt at h
  obtain ⟨r, hr⟩ := List.isPrefixOf_iff_prefix.1 h
  have hi : i < sep.length := (List.getElem?_eq_some_iff.1 hc).1
  have : (s.drop j)[i]? = some c := by rw [← hr, List.getElem?_append_left hi]; exact hc
  simpa using this
theorem index_at {A sep B : List UInt8} (h : ∀ j, j < A.length → Lib.occAt (A ++ (sep ++ B)) sep j = false) : Lib.index (A ++ (sep ++ B)) sep = A.length := by
  refine Lib.index_first (by simp) ?_ h
  unfold Lib.occAt
  rw [List.drop_left]
  exact List.isPrefixOf_iff_prefix.2 ⟨B, rfl⟩
theorem cut_at {A sep B : List UInt8} (h : ∀ j, j < A.length → Lib.occAt (A ++ (sep ++ B)) sep j = false) : Lib.cut (A ++ (sep ++ B)) sep = (A, B, true) := by
  unfold Lib.cut
  rw [index_at h, if_pos (by omega), Int.toNat_natCast]
  simp [List.take_left, List.drop_append]
theorem no_occ {A sep B : List UInt8} {c : UInt8} {t : List UInt8} (hs : sep = c :: t) (hc : c ∉ A) : ∀ j, j < A.length → Lib.occAt (A ++ (sep ++ B)) sep j = false := fun j hj => by
  cases h : Lib.occAt (A ++ (sep ++ B)) sep j with
  | false => rfl
  | true =>
    have := occ_char (i := 0) h (by rw [hs]; rfl)
    rw [Nat.add_zero, List.getElem?_append_left hj] at this
    exact absurd (List.mem_of_getElem? this) hc
theorem cut_none {s sep : List UInt8} {c : UInt8} (hc : c ∈ sep) (hs : c ∉ s) : Lib.cut s sep = (s, [], false) := by
  have : Lib.index s sep = -1 := Lib.index_none fun j hj => by
    cases h : Lib.occAt s sep j with
    | false => rfl
    | true =>
      obtain ⟨i, hi, rfl⟩ := List.getElem_of_mem hc
      have := occ_char (i := i) h (List.getElem?_eq_getElem hi)
      exact absurd (List.mem_of_getElem? this) hs
  unfold Lib.cut
  rw [this, if_neg (by omega)]
theorem split_one {A : List UInt8} (h : 44 ∉ A) : Lib.splitK [44, 32] 0 (Lib.count A [44, 32]) A = [A] := by
  have : Lib.index A [44, 32] = -1 := by
    refine Lib.index_none fun j hj => ?_
    cases hh : Lib.occAt A [44, 32] j with
    | false => rfl
    | true =>
      have := occ_char (i := 0) (c := 44) hh rfl
      exact absurd (List.mem_of_getElem? this) h
  rw [Lib.count_miss this]; rfl
theorem split_more {A B : List UInt8} (h : 44 ∉ A) : Lib.splitK [44, 32] 0 (Lib.count (A ++ ([44, 32] ++ B)) [44, 32]) (A ++ ([44, 32] ++ B)) = A :: Lib.splitK [44, 32] 0 (Lib.count B [44, 32]) B := by
  have hi : Lib.index (A ++ ([44, 32] ++ B)) [44, 32] = A.length := index_at (no_occ (c := 44) rfl h)
  have hd : (A ++ ([44, 32] ++ B)).drop (A.length + 2) = B := by
    rw [List.drop_append]; simp
  rw [Lib.count_hit (by simp) hi, Nat.add_comm 1, Lib.splitK, hi, if_neg (by simp only [beq_iff_eq]; omega), Int.toNat_natCast, Nat.add_zero, List.take_left]
  simp only [List.length_cons, List.length_nil]
  rw [hd]
/-- pieces with a comma and a space between -/
def joinL : List (List UInt8) → List UInt8
  | [] => []
  | [a] => a
  | a :: b :: l => a ++ (44 :: 32 :: joinL (b :: l))
theorem split_join : ∀ (a : List UInt8) (l : List (List UInt8)), (∀ x ∈ a :: l, 44 ∉ x) → Lib.splitK [44, 32] 0 (Lib.count (joinL (a :: l)) [44, 32]) (joinL (a :: l)) = a :: l := by
  intro a l
  induction l generalizing a with
  | nil => intro h; exact split_one (h a List.mem_cons_self)
  | cons b l ih =>
    intro h
    show Lib.splitK [44, 32] 0 (Lib.count (a ++ ([44, 32] ++ joinL (b :: l))) [44, 32]) (a ++ ([44, 32] ++ joinL (b :: l))) = _
    rw [split_more (h a List.mem_cons_self), ih b (fun x hx => h x (List.mem_cons_of_mem _ hx))]
theorem ib_at : ∀ {A B : List UInt8} {c : UInt8}, c ∉ A → Lib.indexByte (A ++ c :: B) c = A.length := by
  intro A
  induction A with
  | nil => intro B c _; simp [Lib.indexByte]
  | cons a A ih =>
    intro B c h
    have h1 : a ≠ c := fun e => h (by rw [e]; exact List.mem_cons_self)
    have h2 := ih (B := B) (c := c) (fun e => h (List.mem_cons_of_mem _ e))
    show Lib.indexByte (a :: (A ++ c :: B)) c = _
    unfold Lib.indexByte
    rw [h2, if_neg (by simpa using h1), if_neg (by simp only [beq_iff_eq]; omega), List.length_cons]
    omega
theorem ib_none : ∀ {A : List UInt8} {c : UInt8}, c ∉ A → Lib.indexByte A c = -1 := by
  intro A
  induction A with
  | nil => intro c _; rfl
  | cons a A ih =>
    intro c h
    have h1 : a ≠ c := fun e => h (by rw [e]; exact List.mem_cons_self)
    have h2 := ih (c := c) (fun e => h (List.mem_cons_of_mem _ e))
    unfold Lib.indexByte
    rw [h2, if_neg (by simpa using h1), if_pos (by rfl)]
end Go.Proofs.YtondogoepcndiaaDoor.Pure

/- Chapter 03, plain: the line of an instruction, by the program and by the document's patterns. No conditions but the ones each theorem names. -/
namespace Go.Proofs.YtondogoepcndiaaDoor.Pure
open Go.RowKit Go.Proofs.YtondogoepcndiaaDoorW.PrintWords Go.Proofs.YtondogoepcndiaaDoorW.PrintLast Go.Proofs.YtondogoepcndiaaDoorW.PrintMore Go.Proofs.YtondogoepcndiaaDoor.P
set_option linter.unusedVariables false
set_option linter.unusedSimpArgs false

/-- The fields of a line: the registers, the offset, the number, the high half. -/
structure Fl where
  d : Int
  s : Int
  o : Int
  n : Int
  h : Int
def Fl.In (f : Fl) : Prop := (0 ≤ f.d ∧ f.d ≤ 255) ∧ (0 ≤ f.s ∧ f.s ≤ 255) ∧ (-32768 ≤ f.o ∧ f.o ≤ 32767) ∧ (-2147483648 ≤ f.n ∧ f.n ≤ 2147483647) ∧ (-2147483648 ≤ f.h ∧ f.h ≤ 2147483647)
def wideN (f : Fl) : Nat := ((f.h % 4294967296) * 4294967296 + f.n % 4294967296).toNat
def offL (o : Int) : List UInt8 := if o < 0 then Lib.itoa o else 43 :: Lib.itoa o
def fillB (f : Fl) (c : UInt8) : List UInt8 :=
  if c = 68 then 114 :: Lib.itoa f.d else if c = 83 then 114 :: Lib.itoa f.s else if c = 79 then offL f.o else if c = 78 then Lib.itoa f.n else if c = 85 then Lib.decDigits (wideN f) else [c]
def fillL (f : Fl) (p : List UInt8) : List UInt8 := p.flatMap (fillB f)
theorem fillL_cons (f : Fl) (c : UInt8) (p : List UInt8) : fillL f (c :: p) = fillB f c ++ fillL f p := rfl
theorem fillL_nil (f : Fl) : fillL f [] = [] := rfl
theorem fillL_app (f : Fl) (p q : List UInt8) : fillL f (p ++ q) = fillL f p ++ fillL f q := by unfold fillL; rw [List.flatMap_append]
def isLet (c : UInt8) : Bool := c == 68 || c == 83 || c == 79 || c == 78 || c == 85
def plainL (p : List UInt8) : Bool := p.all (fun c => !isLet c)
theorem fillB_plain (f : Fl) {c : UInt8} (h : isLet c = false) : fillB f c = [c] := by
  unfold isLet at h
  simp only [Bool.or_eq_false_iff, beq_eq_false_iff_ne] at h
  obtain ⟨⟨⟨⟨h1, h2⟩, h3⟩, h4⟩, h5⟩ := h
  unfold fillB
  rw [if_neg h1, if_neg h2, if_neg h3, if_neg h4, if_neg h5]
theorem fillL_plain (f : Fl) : ∀ {p : List UInt8}, plainL p = true → fillL f p = p := by
  intro p
  induction p with
  | nil => intro _; rfl
  | cons c p ih =>
    intro h
    unfold plainL at h
    rw [List.all_cons, Bool.and_eq_true] at h
    rw [fillL_cons, fillB_plain f (by simpa using h.1), ih h.2]; rfl

/-! patterns -/
def opL (k : Int) : List UInt8 := (rdOf ByteArray.empty gl0 k).data.toList
def cdL (k : Int) : List UInt8 := (rdOf ByteArray.empty gl1 k).data.toList
def bitsL (b : Bool) : List UInt8 := if b = true then [54, 52] else [51, 50]
def wordL (w : W5) : List UInt8 :=
  if w.1 = 1 then (if w.2.1 = 8 then [110, 101, 103] ++ bitsL w.2.2.2.1 else opL w.2.1 ++ bitsL w.2.2.2.1)
  else if w.1 = 2 then [115, 119, 97, 112] ++ Lib.itoa (8 * w.2.2.1)
  else if w.1 = 3 then [108, 111, 97, 100] ++ Lib.itoa (8 * w.2.2.1)
  else if w.1 = 4 then [115, 116, 111, 114, 101] ++ Lib.itoa (8 * w.2.2.1)
  else if w.1 = 5 then [112, 117, 116] ++ Lib.itoa (8 * w.2.2.1)
  else if w.1 = 6 then cdL w.2.1 ++ bitsL w.2.2.2.1
  else if w.1 = 7 then [103, 111, 116, 111]
  else if w.1 = 8 then [99, 97, 108, 108]
  else if w.1 = 9 then [101, 120, 105, 116]
  else if w.1 = 10 then [99, 111, 110, 115, 116]
  else [109, 97, 112]
def secP (w : W5) : UInt8 := if w.2.2.2.2 = true then 83 else 78
def argP (w : W5) : List (List UInt8) :=
  if w.1 = 1 then (if w.2.1 = 8 then [[68]] else [[68], [secP w]])
  else if w.1 = 2 then [[68]]
  else if w.1 = 3 then [[68], [83, 79]]
  else if w.1 = 4 then [[68, 79], [83]]
  else if w.1 = 5 then [[68, 79], [78]]
  else if w.1 = 6 then [[68], [secP w], [79]]
  else if w.1 = 7 then [[79]]
  else if w.1 = 8 then [[78]]
  else if w.1 = 9 then []
  else if w.1 = 10 then [[68], [85]]
  else [[68], [78]]
def patL (w : W5) : List UInt8 := wordL w ++ (if argP w = [] then [] else 32 :: joinL (argP w))
theorem rows_in {w : W5} (hw : IsRow w) : 1 ≤ w.1 ∧ w.1 ≤ 11 ∧ 0 ≤ w.2.1 ∧ w.2.1 ≤ 13 ∧ (w.1 = 1 → w.2.1 ≤ 12) ∧ 0 ≤ w.2.2.1 ∧ w.2.2.1 ≤ 8 := by
  have := isRow_all (p := fun w => decide (1 ≤ w.1 ∧ w.1 ≤ 11 ∧ 0 ≤ w.2.1 ∧ w.2.1 ≤ 13 ∧ (w.1 = 1 → w.2.1 ≤ 12) ∧ 0 ≤ w.2.2.1 ∧ w.2.2.1 ≤ 8)) (by decide +kernel) hw
  exact of_decide_eq_true this
theorem rows_plain {w : W5} (hw : IsRow w) : plainL (wordL w) = true :=
  isRow_all (p := fun w => plainL (wordL w)) (by decide +kernel) hw
end Go.Proofs.YtondogoepcndiaaDoor.Pure

/- Chapter 03, plain: the program's line is the pattern filled. No conditions but the ones each theorem names. -/
namespace Go.Proofs.YtondogoepcndiaaDoor.Pure
open Go.RowKit Go.Proofs.YtondogoepcndiaaDoorW.PrintWords Go.Proofs.YtondogoepcndiaaDoorW.PrintLast Go.Proofs.YtondogoepcndiaaDoorW.PrintMore Go.Proofs.YtondogoepcndiaaDoor.P
set_option linter.unusedVariables false
set_option linter.unusedSimpArgs false

theorem u64_join {x y : Int} (x0 : 0 ≤ x) (x1 : x < 4294967296) (y0 : 0 ≤ y) (y1 : y < 4294967296) : Go.bits .or .u64 (x * 4294967296) y = x * 4294967296 + y := by
  rw [u64_or _ y (by omega) (by omega) y0 (by omega), nat_join 32 (x * 4294967296).toNat y.toNat (by omega) (by omega)]; omega
theorem itoaP {n : Int} (h0 : -9223372036854775808 ≤ n) (h1 : n ≤ 9223372036854775807) : strconv_Itoa_29.f (wrap64 n) = some ⟨(Lib.itoa n).toArray⟩ := by
  rw [w64 h0 h1]
  unfold strconv_Itoa_29.f
  rw [if_pos ⟨h0, h1⟩]
theorem reg_eq {n : Int} (h0 : 0 ≤ n) (h1 : n ≤ 255) : asm_reg.f n = some ⟨(114 :: Lib.itoa n).toArray⟩ := by
  unfold asm_reg.f
  rw [itoaP (by omega) (by omega)]
  have := itoa_len (n := n) (by omega) (by omega)
  simp only [Option.bind_some, mk_size, mk_app]
  rw [if_pos (by omega)]; rfl
theorem off_eq {o : Int} (h0 : -32768 ≤ o) (h1 : o ≤ 32767) : asm_offset.f o = some ⟨(offL o).toArray⟩ := by
  unfold asm_offset.f offL
  rw [itoaP (by omega) (by omega)]
  have := itoa_len (n := o) (by omega) (by omega)
  simp only [Option.bind_some, mk_size, mk_app]
  split
  · rfl
  · rw [if_pos (by omega)]; rfl
theorem offL_len {o : Int} (h0 : -32768 ≤ o) (h1 : o ≤ 32767) : (offL o).length ≤ 22 := by
  have := itoa_len (n := o) (by omega) (by omega)
  unfold offL
  split
  · omega
  · rw [List.length_cons]; omega
theorem fmt_eq {f : Fl} (hf : f.In) : strconv_FormatUint_31.f (Go.bits .or .u64 ((f.h % 4294967296) * 4294967296) (f.n % 4294967296)) 10 = some ⟨(Lib.decDigits (wideN f)).toArray⟩ := by
  rw [u64_join (by omega) (by omega) (by omega) (by omega)]
  unfold strconv_FormatUint_31.f
  rw [if_pos ⟨rfl, by omega, by omega⟩]; rfl
theorem wide_lt (f : Fl) : wideN f < 18446744073709551616 := by unfold wideN; omega
theorem name_len (k : Int) : (opL k).length ≤ 8 ∧ (cdL k).length ≤ 8 := by
  have h1 : ∀ l : List ByteArray, l.all (fun s => decide (s.data.toList.length ≤ 8)) = true → ∀ n : Nat, ((l.getD n ByteArray.empty).data.toList).length ≤ 8 := by
    intro l hl n
    rw [List.getD_eq_getElem?_getD]
    cases h : l[n]? with
    | none => exact Nat.zero_le _
    | some s => exact of_decide_eq_true (List.all_eq_true.1 hl s (List.mem_of_getElem? h))
  exact ⟨h1 gl0 (by decide +kernel) _, h1 gl1 (by decide +kernel) _⟩
theorem opB (k : Int) : rdOf ByteArray.empty gl0 k = ⟨(opL k).toArray⟩ := rfl
theorem cdB (k : Int) : rdOf ByteArray.empty gl1 k = ⟨(cdL k).toArray⟩ := rfl
theorem bits_len (b : Bool) : (bitsL b).length ≤ 2 := by cases b <;> decide

/-- The line's text, told by its word and its operands. -/
def lineL (w : W5) (f : Fl) : List UInt8 := wordL w ++ (if argP w = [] then [] else 32 :: fillL f (joinL (argP w)))
theorem fill_pat {w : W5} (hw : IsRow w) (f : Fl) : fillL f (patL w) = lineL w f := by
  unfold patL lineL
  rw [fillL_app, fillL_plain f (rows_plain hw)]
  split
  · rfl
  · rfl
theorem second {w : W5} {f : Fl} : fillB f (secP w) = if w.2.2.2.2 = true then 114 :: Lib.itoa f.s else Lib.itoa f.n := by
  unfold secP
  split <;> rfl
set_option maxHeartbeats 1000000 in
theorem line_j1 (w : W5) (f : Fl) (op : Int) (hf : f.In) (hw : IsRow w) (k : Nat) :
    asm_line.j1 (k + 1) f.h ⟨(114 :: Lib.itoa f.d).toArray⟩ ⟨(114 :: Lib.itoa f.s).toArray⟩ ⟨(Lib.itoa f.n).toArray⟩ ⟨(Lib.itoa (8 * w.2.2.1)).toArray⟩ ⟨(bitsL w.2.2.2.1).toArray⟩ ⟨(fillB f (secP w)).toArray⟩ w.1 w.2.1 w.2.2.1 w.2.2.2.1 w.2.2.2.2 op f.d f.s f.o f.n = some ⟨(lineL w f).toArray⟩ := by
  obtain ⟨⟨d0, d1⟩, ⟨s0, s1⟩, ⟨o0, o1⟩, ⟨n0, n1⟩, ⟨h0, h1⟩⟩ := hf
  obtain ⟨c0, c1, p0, p1, p2, z0, z1⟩ := rows_in hw
  have ld := itoa_len (n := f.d) (by omega) (by omega)
  have ls := itoa_len (n := f.s) (by omega) (by omega)
  have ln := itoa_len (n := f.n) (by omega) (by omega)
  have lz := itoa_len (n := 8 * w.2.2.1) (by omega) (by omega)
  have lo := offL_len o0 o1
  have lb := bits_len w.2.2.2.1
  have lp := (name_len w.2.1).1
  have lc := (name_len w.2.1).2
  have lx : (fillB f (secP w)).length ≤ 22 := by
    rw [second]
    split
    · rw [List.length_cons]; omega
    · omega
  have lw := (dec_len (wide_lt f)).2
  rw [asm_line.j1]
  rw [fmt_eq ⟨⟨d0, d1⟩, ⟨s0, s1⟩, ⟨o0, o1⟩, ⟨n0, n1⟩, ⟨h0, h1⟩⟩]
  simp only [opB, cdB, off_eq o0 o1, mk_app, mk_size, Option.bind_some, List.length_append, List.length_cons, List.length_nil]
  have hc : w.1 = 1 ∨ w.1 = 2 ∨ w.1 = 3 ∨ w.1 = 4 ∨ w.1 = 5 ∨ w.1 = 6 ∨ w.1 = 7 ∨ w.1 = 8 ∨ w.1 = 9 ∨ w.1 = 10 ∨ w.1 = 11 := by omega
  rcases hc with h | h | h | h | h | h | h | h | h | h | h
  · by_cases h8 : w.2.1 = 8
    · simp only [h, h8, if_true]
      repeat rw [if_pos (by omega)]
      simp [lineL, wordL, argP, h, h8, joinL, fillL, fillB]
    · have := p2 h
      simp only [h, h8, if_true, if_false]
      repeat rw [if_pos (by omega)]
      simp [lineL, wordL, argP, h, h8, joinL, fillL_cons, fillL_nil, fillB_plain, isLet, fillB]
  all_goals
    simp only [h, Int.reduceEq, if_true, if_false, reduceIte]
    repeat rw [if_pos (by omega)]
    simp [lineL, wordL, argP, h, joinL, fillL_cons, fillL_nil, fillB]
theorem line_j0 (w : W5) (f : Fl) (op : Int) (hf : f.In) (hw : IsRow w) (k : Nat) :
    asm_line.j0 (k + 2) f.h ⟨(114 :: Lib.itoa f.d).toArray⟩ ⟨(114 :: Lib.itoa f.s).toArray⟩ ⟨(Lib.itoa f.n).toArray⟩ ⟨(Lib.itoa (8 * w.2.2.1)).toArray⟩ ⟨(bitsL w.2.2.2.1).toArray⟩ w.1 w.2.1 w.2.2.1 w.2.2.2.1 w.2.2.2.2 op f.d f.s f.o f.n = some ⟨(lineL w f).toArray⟩ := by
  rw [asm_line.j0, ← line_j1 w f op hf hw k, second]
  split <;> rfl
theorem line_eq (w : W5) (f : Fl) (op : Int) (hf : f.In) (hw : IsRow w) (k : Nat) :
    asm_line.f (k + 2) w.1 w.2.1 w.2.2.1 w.2.2.2.1 w.2.2.2.2 op f.d f.s f.o f.n f.h = some ⟨(lineL w f).toArray⟩ := by
  have h := line_j0 w f op hf hw k
  obtain ⟨⟨d0, d1⟩, ⟨s0, s1⟩, ⟨o0, o1⟩, ⟨n0, n1⟩, ⟨h0, h1⟩⟩ := hf
  obtain ⟨c0, c1, p0, p1, p2, z0, z1⟩ := rows_in hw
  unfold asm_line.f
  rw [reg_eq d0 d1, reg_eq s0 s1, itoaP (by omega) (by omega), itoaP (by omega) (by omega)]
  simp only [Option.bind_some]
  split
  · rename_i hb
    rw [show bitsL w.2.2.2.1 = [54, 52] from by rw [hb]; rfl] at h
    exact h
  · rename_i hb
    rw [show bitsL w.2.2.2.1 = [51, 50] from by rw [eq_false_of_ne_true hb]; rfl] at h
    exact h
/-! lengths -/
theorem fillB_len {f : Fl} (hf : f.In) (c : UInt8) : (fillB f c).length ≤ 30 := by
  obtain ⟨⟨d0, d1⟩, ⟨s0, s1⟩, ⟨o0, o1⟩, ⟨n0, n1⟩, ⟨h0, h1⟩⟩ := hf
  have ld := itoa_len (n := f.d) (by omega) (by omega)
  have ls := itoa_len (n := f.s) (by omega) (by omega)
  have ln := itoa_len (n := f.n) (by omega) (by omega)
  have lo := offL_len o0 o1
  have lw := (dec_len (wide_lt f)).2
  unfold fillB
  repeat' split
  all_goals (try simp only [List.length_cons, List.length_nil])
  all_goals omega
theorem fillL_len {f : Fl} (hf : f.In) : ∀ p : List UInt8, (fillL f p).length ≤ 30 * p.length := by
  intro p
  induction p with
  | nil => exact Nat.le_refl _
  | cons c p ih =>
    have := fillB_len hf c
    rw [fillL_cons, List.length_append, List.length_cons]; omega
theorem byteI {x : UInt8} {v : Nat} (hv : v < 256) : (((x.toNat : Nat) : Int) = (v : Int) ↔ x = UInt8.ofNat v) := by
  constructor
  · intro h
    have : x.toNat = v := by omega
    rw [← this]; exact UInt8.ofNat_toNat.symm
  · rintro rfl
    rw [UInt8.toNat_ofNat', Nat.mod_eq_of_lt hv]
theorem wnext {i : Nat} (h : i ≤ 1000000) : wrap64 ((i : Int) + 1) = ((i + 1 : Nat) : Int) := by rw [w64 (by omega) (by omega)]; omega
theorem bLt {n : Nat} (h : n ≤ 1000000) : n ≤ 9223372036854775807 := Nat.le_trans h (by decide)
theorem pat_len {w : W5} (hw : IsRow w) : (patL w).length ≤ 40 :=
  of_decide_eq_true (isRow_all (p := fun w => decide ((patL w).length ≤ 40)) (by decide +kernel) hw)
theorem lineL_len {w : W5} (hw : IsRow w) {f : Fl} (hf : f.In) : (lineL w f).length ≤ 1200 := by
  have := fillL_len hf (patL w)
  have := pat_len hw
  rw [← fill_pat hw f]; omega
end Go.Proofs.YtondogoepcndiaaDoor.Pure

/- Chapter 03, plain: registers, numbers, addresses read back. No conditions but the ones each theorem names. -/
namespace Go.Proofs.YtondogoepcndiaaDoor.Pure
open Go.RowKit Go.Proofs.YtondogoepcndiaaDoorW.PrintWords Go.Proofs.YtondogoepcndiaaDoorW.PrintLast Go.Proofs.YtondogoepcndiaaDoorW.PrintMore Go.Proofs.YtondogoepcndiaaDoor.P
set_option linter.unusedVariables false
set_option linter.unusedSimpArgs false

theorem numF8 {d : Int} (h0 : 0 ≤ d) (h1 : d ≤ 127) : numF 8 ⟨(Lib.itoa d).toArray⟩ = some d := numF_itoa (.inl rfl) (by omega) (by omega)
theorem number_bad {n : Int} (h : n ≤ 2147483647) : ¬ n = 4611686018427387904 := by omega
theorem number_eq {n : Int} (h0 : -2147483648 ≤ n) (h1 : n ≤ 2147483647) : asm_number.f ⟨(Lib.itoa n).toArray⟩ 32 = some n := by
  have := itoa_len (n := n) (by omega) (by omega)
  unfold asm_number.f
  rw [if_pos ⟨by rw [mk_size]; omega, .inr (.inr rfl)⟩, show ((32 : Int)).toNat = 32 from rfl, numF_itoa (B := 32) (.inr (.inr rfl)) (by omega) (by omega)]; rfl
theorem numF16 {o : Int} (h0 : -32768 ≤ o) (h1 : o ≤ 32767) : numF 16 ⟨(offL o).toArray⟩ = some o := by
  unfold offL
  by_cases h : o < 0
  · rw [if_pos h]; exact numF_itoa (.inr (.inl rfl)) (by omega) (by omega)
  · rw [if_neg h, itoa_pos (by omega)]
    unfold numF
    rw [show (⟨(43 :: Lib.decDigits o.toNat).toArray⟩ : ByteArray).data.toList = 43 :: Lib.decDigits o.toNat from rfl, parseI_plus (by decide) (show o.toNat < 2 ^ (16 - 1) by omega) (by decide)]
    show some ((o.toNat : Nat) : Int) = some o
    rw [Int.toNat_of_nonneg (by omega)]
theorem offset_num {o : Int} (h0 : -32768 ≤ o) (h1 : o ≤ 32767) : asm_number.f ⟨(offL o).toArray⟩ 16 = some o := by
  have := offL_len h0 h1
  unfold asm_number.f
  rw [if_pos ⟨by rw [mk_size]; omega, .inr (.inl rfl)⟩, show ((16 : Int)).toNat = 16 from rfl, numF16 h0 h1]; rfl
theorem w16 {o : Int} (h0 : -32768 ≤ o) (h1 : o ≤ 32767) : IntKind.i16.wrap o = o := by simp [IntKind.wrap, IntKind.bits, IntKind.signed]; omega
theorem w32 {n : Int} (h0 : -2147483648 ≤ n) (h1 : n ≤ 2147483647) : wrap32 n = n := by unfold wrap32; omega
theorem regF_eq {d : Int} (h0 : 0 ≤ d) (h1 : d ≤ 127) : regF ⟨(114 :: Lib.itoa d).toArray⟩ = some d := by
  unfold regF
  have hp : Lib.hasPrefix (⟨(114 :: Lib.itoa d).toArray⟩ : ByteArray).data.toList [114] = true := by
    show List.isPrefixOf [114] (114 :: Lib.itoa d) = true
    simp [List.isPrefixOf]
  rw [if_pos hp, extr, mk_size]
  have e : ((114 :: Lib.itoa d).drop 1).take ((114 :: Lib.itoa d).length - 1) = Lib.itoa d := by
    rw [List.drop_one, List.tail_cons, List.take_of_length_le (by rw [List.length_cons]; omega)]
  rw [e, numF8 h0 h1]
  show some (IntKind.u8.wrap d) = some d
  congr 1
  simp [IntKind.wrap, IntKind.bits, IntKind.signed]; omega
theorem register_eq {d : Int} (h0 : 0 ≤ d) (h1 : d ≤ 127) : asm_register.f ⟨(114 :: Lib.itoa d).toArray⟩ = some d := by
  have := itoa_len (n := d) (by omega) (by omega)
  unfold asm_register.f
  rw [if_pos (by rw [mk_size, List.length_cons]; omega), regF_eq h0 h1]; rfl
theorem itoa_chars {n : Int} : ∀ c ∈ Lib.itoa n, IsDig c ∨ c = 45 ∧ n < 0 := by
  intro c hc
  by_cases h : n < 0
  · rw [itoa_neg h] at hc
    rcases List.mem_cons.1 hc with rfl | hc
    · exact .inr ⟨rfl, h⟩
    · exact .inl (dec_digs _ c hc)
  · rw [itoa_pos (by omega)] at hc
    exact .inl (dec_digs _ c hc)
theorem reg_no {d : Int} (h0 : 0 ≤ d) {c : UInt8} (hc : c = 43 ∨ c = 45) : c ∉ (114 :: Lib.itoa d) := by
  intro h
  rcases List.mem_cons.1 h with rfl | h
  · rcases hc with hc | hc <;> exact absurd hc (by decide)
  · rcases itoa_chars c h with h | h
    · rcases hc with rfl | rfl <;> exact absurd h.1 (by decide)
    · omega
theorem offL_head (o : Int) : ∃ t, offL o = (if o < 0 then 45 else 43) :: t ∧ (o < 0 → 43 ∉ offL o) := by
  unfold offL
  by_cases h : o < 0
  · rw [if_pos h, if_pos h]
    refine ⟨_, itoa_neg h, fun _ hm => ?_⟩
    rcases itoa_chars _ hm with h' | h'
    · exact absurd h'.1 (by decide)
    · exact absurd h'.1 (by decide)
  · rw [if_neg h, if_neg h]
    exact ⟨_, rfl, fun h' => absurd h' h⟩
theorem address_eq {d o : Int} (d0 : 0 ≤ d) (d1 : d ≤ 127) (o0 : -32768 ≤ o) (o1 : o ≤ 32767) (k : Nat) : asm_address.f (k + 1) ⟨((114 :: Lib.itoa d) ++ offL o).toArray⟩ = some (d, o) := by
  have l1 := itoa_len (n := d) (by omega) (by omega)
  have l2 := offL_len o0 o1
  obtain ⟨t, ht, hn⟩ := offL_head o
  have hx : ∀ A B : List UInt8, A = 114 :: Lib.itoa d → B = offL o → asm_address.j0 (k + 1) ⟨(A ++ B).toArray⟩ (A.length : Int) = some (d, o) := by
    intro A B hA hB
    have la : A.length ≤ 22 := by rw [hA, List.length_cons]; omega
    have lb : B.length ≤ 22 := by rw [hB]; omega
    rw [asm_address.j0, if_neg (by omega), if_pos (by omega), if_pos (by rw [mk_size, List.length_append]; omega), Int.toNat_natCast, extr, extr, mk_size, List.length_append]
    have e1 : ((A ++ B).drop 0).take (A.length - 0) = 114 :: Lib.itoa d := by rw [List.drop_zero, Nat.sub_zero, List.take_left, hA]
    have e2 : ((A ++ B).drop A.length).take (A.length + B.length - A.length) = offL o := by rw [List.drop_left, List.take_of_length_le (by omega), hB]
    rw [e1, e2, register_eq d0 d1, offset_num o0 o1]
    simp only [Option.bind_some]
    rw [if_neg (by omega), if_neg (by omega), w16 o0 o1]
  have hx' := hx _ _ rfl rfl
  unfold asm_address.f strings_IndexByte.f
  simp only [Option.bind_some, show ((43 : Int)).toNat.toUInt8 = 43 from rfl, show ((45 : Int)).toNat.toUInt8 = 45 from rfl]
  by_cases h : o < 0
  · rw [if_pos h] at ht
    have i1 : Lib.indexByte ((114 :: Lib.itoa d) ++ offL o) 43 = -1 := ib_none fun hm => by
      rcases List.mem_append.1 hm with hm | hm
      · exact reg_no d0 (.inl rfl) hm
      · exact hn h hm
    have i2 : Lib.indexByte ((114 :: Lib.itoa d) ++ offL o) 45 = (114 :: Lib.itoa d).length := by rw [ht]; exact ib_at (reg_no d0 (.inr rfl))
    rw [i1, if_pos (by omega), i2, hx']
  · rw [if_neg h] at ht
    have i1 : Lib.indexByte ((114 :: Lib.itoa d) ++ offL o) 43 = (114 :: Lib.itoa d).length := by rw [ht]; exact ib_at (reg_no d0 (.inl rfl))
    rw [i1, if_neg (by omega), hx']
theorem uint_eq {n : Nat} (h : n < 18446744073709551616) : strconv_ParseUint_57.f ⟨(Lib.decDigits n).toArray⟩ 10 64 = some ((n : Int), none) := by
  have := dec_len h
  unfold strconv_ParseUint_57.f
  rw [if_pos ⟨by rw [mk_size]; omega, rfl, rfl⟩]
  have e : uintF ⟨(Lib.decDigits n).toArray⟩ = some (n : Int) := by
    unfold uintF
    rw [show (⟨(Lib.decDigits n).toArray⟩ : ByteArray).data.toList = Lib.decDigits n from rfl, parseU_dec (B := 64) (by decide) (by omega)]
  rw [e]; rfl
theorem pre_eq (c : UInt8) (t : List UInt8) : strings_HasPrefix.f ⟨(c :: t).toArray⟩ ⟨#[114]⟩ = some (c == 114) := by
  unfold strings_HasPrefix.f stringslite_HasPrefix.f
  have e1 : (⟨#[114]⟩ : ByteArray).size = 1 := rfl
  rw [mk_size, e1, List.length_cons, if_pos (by omega), if_pos (by omega), if_pos (by omega), show (((1 : Nat) : Int)).toNat = 1 from rfl, extr]
  simp only [Option.bind_some, mk_list]
  simp
theorem pre_reg (t : List UInt8) : strings_HasPrefix.f ⟨(114 :: t).toArray⟩ ⟨#[114]⟩ = some true := pre_eq 114 t
theorem pre_num (n : Int) : strings_HasPrefix.f ⟨(Lib.itoa n).toArray⟩ ⟨#[114]⟩ = some false := by
  cases h : Lib.itoa n with
  | nil =>
    by_cases c : n < 0
    · rw [itoa_neg c] at h; cases h
    · rw [itoa_pos (by omega)] at h; exact absurd h (dec_ne _)
  | cons c t =>
    rw [pre_eq]
    congr 1
    rw [beq_eq_false_iff_ne]
    rintro rfl
    rcases itoa_chars (n := n) 114 (by rw [h]; exact List.mem_cons_self) with h' | h'
    · exact absurd h'.2 (by decide)
    · exact absurd h'.1 (by decide)
end Go.Proofs.YtondogoepcndiaaDoor.Pure

/- Chapter 03, plain: a line read back is what it was made of. No conditions but the ones each theorem names. -/
namespace Go.Proofs.YtondogoepcndiaaDoor.Pure
open Go.RowKit Go.Proofs.YtondogoepcndiaaDoorW.PrintWords Go.Proofs.YtondogoepcndiaaDoorW.PrintLast Go.Proofs.YtondogoepcndiaaDoorW.PrintMore Go.Proofs.YtondogoepcndiaaDoor.P
set_option linter.unusedVariables false
set_option linter.unusedSimpArgs false

def uses (w : W5) (c : UInt8) : Bool := (argP w).any fun a => a.contains c
def Cn (w : W5) (f : Fl) : Prop := (uses w 68 = false → f.d = 0) ∧ (uses w 83 = false → f.s = 0) ∧ (uses w 79 = false → f.o = 0) ∧ (uses w 78 = false → uses w 85 = false → f.n = 0) ∧ (uses w 85 = false → f.h = 0)
def Fl.Ln (f : Fl) : Prop := (0 ≤ f.d ∧ f.d ≤ 127) ∧ (0 ≤ f.s ∧ f.s ≤ 127) ∧ (-32768 ≤ f.o ∧ f.o ≤ 32767) ∧ (-2147483648 ≤ f.n ∧ f.n ≤ 2147483647) ∧ (-2147483648 ≤ f.h ∧ f.h ≤ 2147483647)
theorem Fl.Ln.in_ {f : Fl} (h : f.Ln) : f.In := ⟨⟨h.1.1, by have := h.1.2; omega⟩, ⟨h.2.1.1, by have := h.2.1.2; omega⟩, h.2.2⟩
theorem rows_verb {w : W5} (hw : IsRow w) : asm_verb.f 60 ⟨(wordL w).toArray⟩ = some (w.1, w.2.1, w.2.2.1, w.2.2.2.1, false) :=
  of_decide_eq_true (isRow_all (p := fun w => decide (asm_verb.f 60 ⟨(wordL w).toArray⟩ = some (w.1, w.2.1, w.2.2.1, w.2.2.2.1, false))) (by decide +kernel) hw)
theorem rows_ops {w : W5} (hw : IsRow w) : asm_operands.f 5 w.1 w.2.1 w.2.2.1 w.2.2.2.1 false = some ((argP w).length : Int) :=
  of_decide_eq_true (isRow_all (p := fun w => decide (asm_operands.f 5 w.1 w.2.1 w.2.2.1 w.2.2.2.1 false = some ((argP w).length : Int))) (by decide +kernel) hw)
theorem rows_word {w : W5} (hw : IsRow w) : 32 ∉ wordL w ∧ 10 ∉ wordL w :=
  of_decide_eq_true (isRow_all (p := fun w => decide (32 ∉ wordL w ∧ 10 ∉ wordL w)) (by decide +kernel) hw)
theorem rows_args {w : W5} (hw : IsRow w) : ∀ a ∈ argP w, ∀ c ∈ a, isLet c = true :=
  of_decide_eq_true (isRow_all (p := fun w => decide (∀ a ∈ argP w, ∀ c ∈ a, isLet c = true)) (by decide +kernel) hw)
theorem rows_reg {w : W5} (hw : IsRow w) : (w.1 ≠ 1 ∧ w.1 ≠ 6 → w.2.2.2.2 = false) ∧ (w.1 = 1 → w.2.1 = 8 → w.2.2.2.2 = false) :=
  of_decide_eq_true (isRow_all (p := fun w => decide ((w.1 ≠ 1 ∧ w.1 ≠ 6 → w.2.2.2.2 = false) ∧ (w.1 = 1 → w.2.1 = 8 → w.2.2.2.2 = false))) (by decide +kernel) hw)
theorem fill_join (f : Fl) : ∀ l : List (List UInt8), fillL f (joinL l) = joinL (l.map (fillL f)) := by
  intro l
  induction l with
  | nil => rfl
  | cons a l ih =>
    cases l with
    | nil => rfl
    | cons b l =>
      show fillL f (a ++ (44 :: 32 :: joinL (b :: l))) = fillL f a ++ (44 :: 32 :: joinL ((b :: l).map (fillL f)))
      rw [← ih, fillL_app, fillL_cons, fillL_cons]; rfl
theorem let_chars {f : Fl} {c x : UInt8} (hc : isLet c = true) (hx : x ∈ fillB f c) : IsDig x ∨ x = 114 ∨ x = 43 ∨ x = 45 := by
  have dg : ∀ n, x ∈ Lib.itoa n → IsDig x ∨ x = 114 ∨ x = 43 ∨ x = 45 := fun n h => by
    rcases itoa_chars x h with h | h
    · exact .inl h
    · exact .inr (.inr (.inr h.1))
  unfold fillB at hx
  split at hx
  · rcases List.mem_cons.1 hx with h | h
    · exact .inr (.inl h)
    · exact dg _ h
  split at hx
  · rcases List.mem_cons.1 hx with h | h
    · exact .inr (.inl h)
    · exact dg _ h
  split at hx
  · unfold offL at hx
    split at hx
    · exact dg _ hx
    · rcases List.mem_cons.1 hx with h | h
      · exact .inr (.inr (.inl h))
      · exact dg _ h
  split at hx
  · exact dg _ hx
  split at hx
  · exact .inl (dec_digs _ x hx)
  · rename_i h1 h2 h3 h4 h5
    unfold isLet at hc
    simp [h1, h2, h3, h4, h5] at hc
theorem args_chars {f : Fl} {p : List UInt8} (hp : ∀ c ∈ p, isLet c = true) {x : UInt8} (hx : x ∈ fillL f p) : IsDig x ∨ x = 114 ∨ x = 43 ∨ x = 45 := by
  obtain ⟨c, hc, hx⟩ := List.mem_flatMap.1 hx
  exact let_chars (hp c hc) hx
theorem args_44 {f : Fl} {p : List UInt8} (hp : ∀ c ∈ p, isLet c = true) : 44 ∉ fillL f p := fun h => by
  rcases args_chars hp h with h | h | h | h
  · exact absurd h.1 (by decide)
  all_goals exact absurd h (by decide)
theorem Cut_eq (s sep : List UInt8) (h : s.length < 4294967281) : strings_Cut.f ⟨s.toArray⟩ ⟨sep.toArray⟩ = some (⟨(Lib.cut s sep).1.toArray⟩, ⟨(Lib.cut s sep).2.1.toArray⟩, (Lib.cut s sep).2.2) := by
  unfold strings_Cut.f
  rw [if_pos (by rw [mk_size]; exact h)]
def argsB (w : W5) (f : Fl) : List ByteArray := (argP w).map fun a => ⟨(fillL f a).toArray⟩
theorem split_args {w : W5} (hw : IsRow w) {f : Fl} (hl : (fillL f (joinL (argP w))).length < 4294967281) (hn : argP w ≠ []) :
    strings_Split.f ⟨(fillL f (joinL (argP w))).toArray⟩ ⟨#[44, 32]⟩ = some (argsB w f) := by
  unfold strings_Split.f
  rw [if_pos ⟨by rw [mk_size]; exact hl, by decide⟩]
  congr 1
  apply map_data_inj
  rw [Lib.splitB_data]
  unfold argsB
  rw [List.map_map]
  have hm : ((argP w).map ((fun x : ByteArray => x.data.toList) ∘ fun a => (⟨(fillL f a).toArray⟩ : ByteArray))) = (argP w).map (fillL f) := rfl
  rw [hm, show (⟨(fillL f (joinL (argP w))).toArray⟩ : ByteArray).data.toList = fillL f (joinL (argP w)) from rfl, fill_join]
  have hr := rows_args hw
  revert hn hr
  cases argP w with
  | nil => intro h; exact absurd rfl h
  | cons a l =>
    intro _ hr
    exact split_join _ _ (fun x hx => by
      rw [← List.map_cons] at hx
      obtain ⟨p, hp, rfl⟩ := List.mem_map.1 hx
      exact args_44 (hr p hp))
end Go.Proofs.YtondogoepcndiaaDoor.Pure

/- Chapter 03, plain: a line read back is what it was made of: the operands, class by class. No conditions but the ones each theorem names. -/
namespace Go.Proofs.YtondogoepcndiaaDoor.Pure
open Go.RowKit Go.Proofs.YtondogoepcndiaaDoorW.PrintWords Go.Proofs.YtondogoepcndiaaDoorW.PrintLast Go.Proofs.YtondogoepcndiaaDoorW.PrintMore Go.Proofs.YtondogoepcndiaaDoor.P
set_option linter.unusedVariables false
set_option linter.unusedSimpArgs false

theorem pieceD (f : Fl) : fillL f [68] = 114 :: Lib.itoa f.d := by simp [fillL, fillB]
theorem pieceS (f : Fl) : fillL f [83] = 114 :: Lib.itoa f.s := by simp [fillL, fillB]
theorem pieceO (f : Fl) : fillL f [79] = offL f.o := by simp [fillL, fillB]
theorem pieceN (f : Fl) : fillL f [78] = Lib.itoa f.n := by simp [fillL, fillB]
theorem pieceU (f : Fl) : fillL f [85] = Lib.decDigits (wideN f) := by simp [fillL, fillB]
theorem pieceDO (f : Fl) : fillL f [68, 79] = (114 :: Lib.itoa f.d) ++ offL f.o := by simp [fillL, fillB]
theorem pieceSO (f : Fl) : fillL f [83, 79] = (114 :: Lib.itoa f.s) ++ offL f.o := by simp [fillL, fillB]
theorem rd0 {a : ByteArray} {l : List ByteArray} : rdOf ByteArray.empty (a :: l) 0 = a := rfl
theorem rd1 {a b : ByteArray} {l : List ByteArray} : rdOf ByteArray.empty (a :: b :: l) 1 = b := rfl
theorem rd2 {a b c : ByteArray} {l : List ByteArray} : rdOf ByteArray.empty (a :: b :: c :: l) 2 = c := rfl
def ansR (w : W5) (f : Fl) : Int × Int × Int × Bool × Bool × Int × Int × Int × Int × Int × Int := (w.1, w.2.1, w.2.2.1, w.2.2.2.1, w.2.2.2.2, 0, f.d, f.s, f.o, f.n, f.h)
theorem wide_hi {f : Fl} (hf : f.Ln) : wrap32 ((((wideN f : Nat) : Int) / 4294967296) % 4294967296) = f.h := by
  have e : ((wideN f : Nat) : Int) = (f.h % 4294967296) * 4294967296 + f.n % 4294967296 := by unfold wideN; omega
  have := hf.2.2.2.2
  rw [e]; unfold wrap32; omega
theorem wide_lo {f : Fl} (hf : f.Ln) : wrap32 (((wideN f : Nat) : Int) % 4294967296) = f.n := by
  have e : ((wideN f : Nat) : Int) = (f.h % 4294967296) * 4294967296 + f.n % 4294967296 := by unfold wideN; omega
  have := hf.2.2.2.1
  rw [e]; unfold wrap32; omega
set_option maxHeartbeats 2000000 in
theorem read_j1 {w : W5} (hw : IsRow w) {f : Fl} (hf : f.Ln) (hc : Cn w f) (k : Nat) :
    asm_read.j1 (k + 3) (argsB w f) 0 w.1 (if w.1 = 1 then (w.1 == 1) else (w.1 == 6)) w.1 w.2.1 w.2.2.1 w.2.2.2.1 false 0 0 0 0 0 = some (ansR w f) := by
  obtain ⟨c0, c1, p0, p1, p2, z0, z1⟩ := rows_in hw
  obtain ⟨r1, r2⟩ := rows_reg hw
  obtain ⟨q1, q2, q3, q4, q5⟩ := hc
  have hhi := wide_hi hf
  have hlo := wide_lo hf
  have hwd := uint_eq (wide_lt f)
  obtain ⟨⟨d0, d1⟩, ⟨s0, s1⟩, ⟨o0, o1⟩, ⟨n0, n1⟩, ⟨h0, h1⟩⟩ := hf
  have eD := register_eq d0 d1
  have eS := register_eq s0 s1
  have eN := number_eq n0 n1
  have eO := offset_num o0 o1
  have eDO := address_eq d0 d1 o0 o1 (k + 1)
  have eSO := address_eq s0 s1 o0 o1 (k + 1)
  have nD : ¬ f.d = 256 := by omega
  have nS : ¬ f.s = 256 := by omega
  have nN : ¬ f.n = 4611686018427387904 := by omega
  have nO : ¬ f.o = 4611686018427387904 := by omega
  have wN := w32 n0 n1
  have wO := w16 o0 o1
  have hcs : w.1 = 1 ∨ w.1 = 2 ∨ w.1 = 3 ∨ w.1 = 4 ∨ w.1 = 5 ∨ w.1 = 6 ∨ w.1 = 7 ∨ w.1 = 8 ∨ w.1 = 9 ∨ w.1 = 10 ∨ w.1 = 11 := by omega
  clear c0 c1 p0 p1 p2 z0 z1 d0 d1 s0 s1 o0 o1 n0 n1 h0 h1
  unfold ansR
  rcases hcs with h | h | h | h | h | h | h | h | h | h | h
  · by_cases h8 : w.2.1 = 8
    · have hr := r2 h h8
      simp [uses, argP, h, h8] at q1 q2 q3 q4 q5
      have ea : argsB w f = [⟨(114 :: Lib.itoa f.d).toArray⟩] := by simp [argsB, argP, h, h8, pieceD]
      rw [ea, asm_read.j1, if_pos (by simp [h]), if_pos (by simp), rd0, eD]
      simp only [Option.bind_some]
      rw [if_neg nD, if_neg (by simp), asm_read.j2, if_neg (by simp), asm_read.j3, h8, hr, q2, q3, q4, q5]
    · by_cases hr : w.2.2.2.2 = true
      · simp [uses, argP, h, h8, secP, hr] at q1 q2 q3 q4 q5
        have ea : argsB w f = [⟨(114 :: Lib.itoa f.d).toArray⟩, ⟨(114 :: Lib.itoa f.s).toArray⟩] := by simp [argsB, argP, h, h8, secP, hr, pieceD, pieceS]
        rw [ea, asm_read.j1, if_pos (by simp [h]), if_pos (by simp), rd0, eD]
        simp only [Option.bind_some]
        rw [if_neg nD, if_pos (by simp), if_pos (by simp), rd1, pre_reg, Option.bind_some, if_pos rfl, eS, Option.bind_some, if_neg nS, asm_read.j2, if_neg (by simp), asm_read.j3, hr, q3, q4, q5]
      · have hr := eq_false_of_ne_true hr
        simp [uses, argP, h, h8, secP, hr] at q1 q2 q3 q4 q5
        have ea : argsB w f = [⟨(114 :: Lib.itoa f.d).toArray⟩, ⟨(Lib.itoa f.n).toArray⟩] := by simp [argsB, argP, h, h8, secP, hr, pieceD, pieceN]
        rw [ea, asm_read.j1, if_pos (by simp [h]), if_pos (by simp), rd0, eD]
        simp only [Option.bind_some]
        rw [if_neg nD, if_pos (by simp), if_pos (by simp), rd1, pre_num, Option.bind_some, if_neg (by decide), eN, Option.bind_some, if_neg nN, asm_read.j2, if_neg (by simp), asm_read.j3, hr, q2, q3, q5, wN]
  · have hr := r1 (by omega)
    simp [uses, argP, h] at q1 q2 q3 q4 q5
    have ea : argsB w f = [⟨(114 :: Lib.itoa f.d).toArray⟩] := by simp [argsB, argP, h, pieceD]
    rw [ea, asm_read.j1, if_neg (by simp [h]), if_pos (by omega), if_pos (by simp), rd0, eD, Option.bind_some, if_neg nD, asm_read.j3, hr, q2, q3, q4, q5]
  · have hr := r1 (by omega)
    simp [uses, argP, h] at q1 q2 q3 q4 q5
    have ea : argsB w f = [⟨(114 :: Lib.itoa f.d).toArray⟩, ⟨((114 :: Lib.itoa f.s) ++ offL f.o).toArray⟩] := by simp [argsB, argP, h, pieceD, pieceSO]
    rw [ea, asm_read.j1, if_neg (by simp [h]), if_neg (by omega), if_pos (by omega), if_pos (by simp), rd0, eD, Option.bind_some, if_neg nD, if_pos (by simp), rd1, eSO, Option.bind_some, if_neg nS, asm_read.j3, hr, q4, q5]
  · have hr := r1 (by omega)
    simp [uses, argP, h] at q1 q2 q3 q4 q5
    have ea : argsB w f = [⟨((114 :: Lib.itoa f.d) ++ offL f.o).toArray⟩, ⟨(114 :: Lib.itoa f.s).toArray⟩] := by simp [argsB, argP, h, pieceDO, pieceS]
    rw [ea, asm_read.j1, if_neg (by simp [h]), if_neg (by omega), if_neg (by omega), if_pos (by omega), if_pos (by simp), rd0, eDO, Option.bind_some, if_neg nD, if_pos (by simp), rd1, eS, Option.bind_some, if_neg nS, asm_read.j3, hr, q4, q5]
  · have hr := r1 (by omega)
    simp [uses, argP, h] at q1 q2 q3 q4 q5
    have ea : argsB w f = [⟨((114 :: Lib.itoa f.d) ++ offL f.o).toArray⟩, ⟨(Lib.itoa f.n).toArray⟩] := by simp [argsB, argP, h, pieceDO, pieceN]
    rw [ea, asm_read.j1, if_neg (by simp [h]), if_neg (by omega), if_neg (by omega), if_neg (by omega), if_pos (by omega), if_pos (by simp), rd0, eDO, Option.bind_some, if_neg nD, if_pos (by simp), rd1, eN, Option.bind_some, if_neg nN, asm_read.j3, hr, q2, q5, wN]
  · by_cases hr : w.2.2.2.2 = true
    · simp [uses, argP, h, secP, hr] at q1 q2 q3 q4 q5
      have ea : argsB w f = [⟨(114 :: Lib.itoa f.d).toArray⟩, ⟨(114 :: Lib.itoa f.s).toArray⟩, ⟨(offL f.o).toArray⟩] := by simp [argsB, argP, h, secP, hr, pieceD, pieceS, pieceO]
      rw [ea, asm_read.j1, if_pos (by simp [h]), if_pos (by simp), rd0, eD, Option.bind_some, if_neg nD, if_pos (by simp), if_pos (by simp), rd1, pre_reg, Option.bind_some, if_pos rfl, eS, Option.bind_some, if_neg nS, asm_read.j2, if_pos (by simp), if_pos (by simp), rd2, eO, Option.bind_some, if_neg nO, asm_read.j3, hr, wO, q4, q5]
    · have hr := eq_false_of_ne_true hr
      simp [uses, argP, h, secP, hr] at q1 q2 q3 q4 q5
      have ea : argsB w f = [⟨(114 :: Lib.itoa f.d).toArray⟩, ⟨(Lib.itoa f.n).toArray⟩, ⟨(offL f.o).toArray⟩] := by simp [argsB, argP, h, secP, hr, pieceD, pieceN, pieceO]
      rw [ea, asm_read.j1, if_pos (by simp [h]), if_pos (by simp), rd0, eD, Option.bind_some, if_neg nD, if_pos (by simp), if_pos (by simp), rd1, pre_num, Option.bind_some, if_neg (by decide), eN, Option.bind_some, if_neg nN, asm_read.j2, if_pos (by simp), if_pos (by simp), rd2, eO, Option.bind_some, if_neg nO, asm_read.j3, hr, wO, wN, q2, q5]
  · have hr := r1 (by omega)
    simp [uses, argP, h] at q1 q2 q3 q4 q5
    have ea : argsB w f = [⟨(offL f.o).toArray⟩] := by simp [argsB, argP, h, pieceO]
    rw [ea, asm_read.j1, if_neg (by simp [h]), if_neg (by omega), if_neg (by omega), if_neg (by omega), if_neg (by omega), if_pos (by omega), if_pos (by simp), rd0, eO, Option.bind_some, if_neg nO, asm_read.j3, hr, wO, q1, q2, q4, q5]
  · have hr := r1 (by omega)
    simp [uses, argP, h] at q1 q2 q3 q4 q5
    have ea : argsB w f = [⟨(Lib.itoa f.n).toArray⟩] := by simp [argsB, argP, h, pieceN]
    rw [ea, asm_read.j1, if_neg (by simp [h]), if_neg (by omega), if_neg (by omega), if_neg (by omega), if_neg (by omega), if_neg (by omega), if_pos (by omega), if_pos (by simp), rd0, eN, Option.bind_some, if_neg nN, asm_read.j3, hr, wN, q1, q2, q3, q5]
  · have hr := r1 (by omega)
    simp [uses, argP, h] at q1 q2 q3 q4 q5
    have ea : argsB w f = [] := by simp [argsB, argP, h]
    rw [ea, asm_read.j1, if_neg (by simp [h]), if_neg (by omega), if_neg (by omega), if_neg (by omega), if_neg (by omega), if_neg (by omega), if_neg (by omega), if_neg (by omega), if_neg (by omega), asm_read.j3, hr, q1, q2, q3, q4, q5]
  · have hr := r1 (by omega)
    simp [uses, argP, h] at q1 q2 q3 q4 q5
    have ea : argsB w f = [⟨(114 :: Lib.itoa f.d).toArray⟩, ⟨(Lib.decDigits (wideN f)).toArray⟩] := by simp [argsB, argP, h, pieceD, pieceU]
    rw [ea, asm_read.j1, if_neg (by simp [h]), if_neg (by omega), if_neg (by omega), if_neg (by omega), if_neg (by omega), if_neg (by omega), if_neg (by omega), if_pos (by omega), if_pos (by simp), rd0, eD, Option.bind_some, if_neg nD, if_pos (by simp), rd1, hwd, Option.bind_some, if_pos (show (((wideN f : Nat) : Int), (none : Option Int)).2.isNone = true from rfl), asm_read.j3, hr, hhi, hlo, q2, q3]
  · have hr := r1 (by omega)
    simp [uses, argP, h] at q1 q2 q3 q4 q5
    have ea : argsB w f = [⟨(114 :: Lib.itoa f.d).toArray⟩, ⟨(Lib.itoa f.n).toArray⟩] := by simp [argsB, argP, h, pieceD, pieceN]
    rw [ea, asm_read.j1, if_neg (by simp [h]), if_neg (by omega), if_neg (by omega), if_neg (by omega), if_neg (by omega), if_neg (by omega), if_neg (by omega), if_neg (by omega), if_pos (by omega), if_pos (by simp), rd0, eD, Option.bind_some, if_neg nD, if_pos (by simp), rd1, eN, Option.bind_some, if_neg nN, asm_read.j3, hr, wN, q2, q3, q5]
theorem lineL_sz {w : W5} (hw : IsRow w) {f : Fl} (hf : f.Ln) : (lineL w f).length ≤ 1200 := lineL_len hw hf.in_
/-- A line read back: what it is, its fields. -/
theorem read_ev {w : W5} (hw : IsRow w) {f : Fl} (hf : f.Ln) (hc : Cn w f) : Ev (fun k => asm_read.f k ⟨(lineL w f).toArray⟩) (ansR w f) := by
  have hlen := lineL_sz hw hf
  have hj : ∀ k, asm_read.j0 (k + 10) (argsB w f) w.1 w.2.1 w.2.2.1 w.2.2.2.1 false = some (ansR w f) := fun k => by
    have ho := at_rounds (asm_operands.mono _ _ _ _ _) (show 5 ≤ k + 9 by omega) (rows_ops hw)
    have h1 := read_j1 hw hf hc (k + 6)
    rw [show k + 10 = (k + 9) + 1 by omega, asm_read.j0, ho, Option.bind_some, if_pos (by unfold argsB; rw [List.length_map])]
    by_cases h : w.1 = 1
    · rw [if_pos h] at h1 ⊢; exact h1
    · rw [if_neg h] at h1 ⊢; exact h1
  refine Ev.eq_ 60 fun k => ?_
  have hv := at_rounds (asm_verb.mono _) (show 60 ≤ k + 60 by omega) (rows_verb hw)
  have hv1 : ¬ w.1 = -1 := by have := (rows_in hw).1; omega
  have h32 := (rows_word hw).1
  have h2 := hj (k + 50)
  unfold asm_read.f
  by_cases ha : argP w = []
  · have el : lineL w f = wordL w := by unfold lineL; rw [if_pos ha, List.append_nil]
    have eb : argsB w f = [] := by unfold argsB; rw [ha]; rfl
    rw [el] at hlen ⊢
    rw [eb] at h2
    rw [show (⟨#[32]⟩ : ByteArray) = ⟨[32].toArray⟩ from rfl, Cut_eq _ _ (by omega), cut_none (c := 32) (by simp) h32, Option.bind_some]
    dsimp only
    rw [hv, Option.bind_some, if_neg hv1, if_neg (by decide)]
    exact h2
  · have el : lineL w f = wordL w ++ ([32] ++ fillL f (joinL (argP w))) := by unfold lineL; rw [if_neg ha]; rfl
    have hl2 : (fillL f (joinL (argP w))).length < 4294967281 := by rw [el, List.length_append, List.length_append] at hlen; omega
    rw [el] at hlen ⊢
    rw [show (⟨#[32]⟩ : ByteArray) = ⟨[32].toArray⟩ from rfl, Cut_eq _ _ (by omega), cut_at (no_occ (c := 32) rfl h32), Option.bind_some]
    dsimp only
    rw [hv, Option.bind_some, if_neg hv1, if_pos rfl, split_args hw hl2 ha, Option.bind_some]
    exact h2
end Go.Proofs.YtondogoepcndiaaDoor.Pure

/- Chapter 03, plain: reading any line comes to an end. No conditions but the ones each theorem names. -/
namespace Go.Proofs.YtondogoepcndiaaDoor.Pure
open Go.RowKit Go.Proofs.YtondogoepcndiaaDoorW.PrintWords Go.Proofs.YtondogoepcndiaaDoorW.PrintLast Go.Proofs.YtondogoepcndiaaDoorW.PrintMore Go.Proofs.YtondogoepcndiaaDoor.P
set_option linter.unusedVariables false
set_option linter.unusedSimpArgs false

theorem ext_le (s : ByteArray) (a b : Nat) : (s.extract a b).size ≤ s.size := by rw [ByteArray.size_extract]; omega
theorem tail_total (x : ByteArray) (b : Int) : ∃ r, stringslite_Cut.f x b = some r := by
  unfold stringslite_Cut.f
  repeat' split
  all_goals exact ⟨_, rfl⟩
theorem verb_l2 (x5 : ByteArray) (x6 : Int) : ∀ n i : Nat, 14 - i ≤ n → ∃ r, Ev (fun k => asm_verb.l2 k x5 x6 (i : Int)) r := by
  intro n
  induction n with
  | zero =>
    intro i hi
    obtain ⟨r, hr⟩ := tail_total x5 x6
    refine ⟨_, Ev.step_ (g := fun _ => some (r.1, r.2.1, r.2.2.1, r.2.2.2.1, r.2.2.2.2)) (fun K => ?_) Ev.pure⟩
    rw [asm_verb.l2, if_neg (by omega), hr]; rfl
  | succ n ih =>
    intro i hi
    by_cases h : i < 14
    · obtain ⟨r, hr⟩ := ih (i + 1) (by omega)
      by_cases c1 : (rdOf ByteArray.empty gl1 (i : Int)).toList = x5.toList
      · by_cases c2 : x5.toList = ([] : List UInt8)
        · refine ⟨r, Ev.step_ (fun K => ?_) hr⟩
          rw [asm_verb.l2, if_pos (by omega), if_pos (by omega), if_pos c1, if_pos c2, wnext (by omega)]
        · refine ⟨_, Ev.step_ (g := fun _ => some (6, (i : Int), 0, (x6 == 64), false)) (fun K => ?_) Ev.pure⟩
          rw [asm_verb.l2, if_pos (by omega), if_pos (by omega), if_pos c1, if_neg c2]
      · refine ⟨r, Ev.step_ (fun K => ?_) hr⟩
        rw [asm_verb.l2, if_pos (by omega), if_pos (by omega), if_neg c1, wnext (by omega)]
    · obtain ⟨r, hr⟩ := tail_total x5 x6
      refine ⟨_, Ev.step_ (g := fun _ => some (r.1, r.2.1, r.2.2.1, r.2.2.2.1, r.2.2.2.2)) (fun K => ?_) Ev.pure⟩
      rw [asm_verb.l2, if_neg (by omega), hr]; rfl
theorem verb_l1 (x5 : ByteArray) (x6 : Int) : ∀ n i : Nat, 13 - i ≤ n → ∃ r, Ev (fun k => asm_verb.l1 k x5 x6 (i : Int)) r := by
  intro n
  induction n with
  | zero =>
    intro i hi
    obtain ⟨r, hr⟩ := verb_l2 x5 x6 14 0 (by omega)
    refine ⟨r, Ev.step_ (fun K => ?_) hr⟩
    rw [asm_verb.l1, if_neg (by omega)]; rfl
  | succ n ih =>
    intro i hi
    by_cases h : i < 13
    · obtain ⟨r, hr⟩ := ih (i + 1) (by omega)
      by_cases c1 : (rdOf ByteArray.empty gl0 (i : Int)).toList = x5.toList
      · refine ⟨_, Ev.step_ (g := fun _ => some (1, (i : Int), 0, (x6 == 64), false)) (fun K => ?_) Ev.pure⟩
        rw [asm_verb.l1, if_pos (by omega), if_pos (by omega), if_pos c1]
      · refine ⟨r, Ev.step_ (fun K => ?_) hr⟩
        rw [asm_verb.l1, if_pos (by omega), if_pos (by omega), if_neg c1, wnext (by omega)]
    · obtain ⟨r, hr⟩ := verb_l2 x5 x6 14 0 (by omega)
      refine ⟨r, Ev.step_ (fun K => ?_) hr⟩
      rw [asm_verb.l1, if_neg (by omega)]; rfl
theorem num_total (x : ByteArray) (hx : x.size ≤ 100000) (b : Int) (hb : b = 8 ∨ b = 16 ∨ b = 32) : ∃ r, asm_number.f x b = some r := by
  unfold asm_number.f
  rw [if_pos ⟨by omega, hb⟩]; exact ⟨_, rfl⟩
theorem reg_total (x : ByteArray) (hx : x.size ≤ 100000) : ∃ r, asm_register.f x = some r ∧ (r = 256 ∨ 0 ≤ r ∧ r ≤ 255) := by
  unfold asm_register.f
  rw [if_pos (by omega)]
  refine ⟨_, rfl, ?_⟩
  cases h : regF x with
  | none => exact .inl rfl
  | some r =>
    right
    unfold regF at h
    split at h
    · obtain ⟨v, _, rfl⟩ := Option.map_eq_some_iff.1 h
      show 0 ≤ IntKind.u8.wrap v ∧ IntKind.u8.wrap v ≤ 255
      simp only [IntKind.wrap, IntKind.bits, IntKind.signed]
      simp; omega
    · cases h
theorem verb_j1 (x : ByteArray) (hx : x.size ≤ 100000) (i : Nat) (hi : i ≤ x.size) : ∃ r, Ev (fun k => asm_verb.j1 k x (i : Int)) r := by
  obtain ⟨v, hv⟩ := num_total (x.extract i x.size) (by have := ext_le x i x.size; omega) 8 (.inl rfl)
  by_cases hb : v = 4611686018427387904
  · refine ⟨_, Ev.step_ (g := fun _ => some ((-1), 0, 0, false, false)) (fun K => ?_) Ev.pure⟩
    rw [asm_verb.j1, if_pos (by omega), if_pos (by omega), Int.toNat_natCast, hv, Option.bind_some, if_pos hb]
  · obtain ⟨r, hr⟩ := verb_l1 (x.extract 0 i) v 13 0 (by omega)
    refine ⟨r, Ev.step_ (fun K => ?_) hr⟩
    rw [asm_verb.j1, if_pos (by omega), if_pos (by omega), Int.toNat_natCast, hv, Option.bind_some, if_neg hb]; rfl
theorem verb_l0 (x : ByteArray) (hx : x.size ≤ 100000) : ∀ i : Nat, i ≤ x.size → ∃ r, Ev (fun k => asm_verb.l0 k x (i : Int)) r := by
  intro i
  induction i with
  | zero =>
    intro _
    obtain ⟨r, hr⟩ := verb_j1 x hx 0 (by omega)
    refine ⟨r, Ev.step_ (fun K => ?_) hr⟩
    rw [asm_verb.l0, if_neg (by omega)]
  | succ i ih =>
    intro hi
    obtain ⟨r, hr⟩ := ih (by omega)
    obtain ⟨r2, hr2⟩ := verb_j1 x hx (i + 1) hi
    have e : wrap64 (((i + 1 : Nat) : Int) - 1) = (i : Int) := by rw [w64 (by omega) (by omega)]; omega
    by_cases c1 : bt x (i : Int) ≥ 48
    · by_cases c2 : bt x (i : Int) ≤ 57
      · refine ⟨r, Ev.step_ (fun K => ?_) hr⟩
        rw [asm_verb.l0, if_pos (by omega), e, if_pos (by omega), if_pos (by omega), if_pos c1, if_pos c2]
      · refine ⟨r2, Ev.step_ (fun K => ?_) hr2⟩
        rw [asm_verb.l0, if_pos (by omega), e, if_pos (by omega), if_pos (by omega), if_pos c1, if_neg c2]
    · refine ⟨r2, Ev.step_ (fun K => ?_) hr2⟩
      rw [asm_verb.l0, if_pos (by omega), e, if_pos (by omega), if_pos (by omega), if_neg c1]
theorem whole_total (x : ByteArray) : ∃ r, asm_whole.f x = some r := by
  unfold asm_whole.f
  repeat' split
  all_goals exact ⟨_, rfl⟩
theorem verb_total (x : ByteArray) (hx : x.size ≤ 100000) : ∃ r, Ev (fun k => asm_verb.f k x) r := by
  obtain ⟨v, hv⟩ := whole_total x
  unfold asm_verb.f
  rw [hv]
  by_cases h : v > 0
  · exact ⟨_, Ev.eqn (g := fun _ => some (v, 0, 0, false, false)) (fun K => if_pos h) Ev.pure⟩
  · obtain ⟨r, hr⟩ := verb_l0 x hx x.size (Nat.le_refl _)
    exact ⟨r, Ev.eqn (fun K => if_neg h) hr⟩
theorem ib_range (l : List UInt8) (c : UInt8) : -1 ≤ Lib.indexByte l c ∧ Lib.indexByte l c ≤ l.length := by
  refine ⟨Lib.indexByte_ge l c, ?_⟩
  induction l with
  | nil => show (-1 : Int) ≤ _; omega
  | cons a l ih =>
    unfold Lib.indexByte
    rw [List.length_cons]
    split
    · omega
    · split
      · omega
      · omega
theorem adr_total (x : ByteArray) (hx : x.size ≤ 100000) : ∃ r, Ev (fun k => asm_address.f k x) r ∧ (r.1 = 256 ∨ (0 ≤ r.1 ∧ r.1 ≤ 255) ∧ (-32768 ≤ r.2 ∧ r.2 ≤ 32767)) := by
  have hj : ∀ i : Int, -1 ≤ i → i ≤ x.size → ∃ r, Ev (fun k => asm_address.j0 k x i) r ∧ (r.1 = 256 ∨ (0 ≤ r.1 ∧ r.1 ≤ 255) ∧ (-32768 ≤ r.2 ∧ r.2 ≤ 32767)) := by
    intro i h0 h1
    by_cases hn : i < 0
    · refine ⟨(256, 0), Ev.step_ (g := fun _ => some (256, 0)) (fun K => ?_) Ev.pure, .inl rfl⟩
      rw [asm_address.j0, if_pos hn]
    · obtain ⟨v, hv, hr⟩ := reg_total (x.extract 0 i.toNat) (by have := ext_le x 0 i.toNat; omega)
      obtain ⟨o, ho⟩ := num_total (x.extract i.toNat x.size) (by have := ext_le x i.toNat x.size; omega) 16 (.inr (.inl rfl))
      by_cases b1 : v = 256
      · refine ⟨(256, 0), Ev.step_ (g := fun _ => some (256, 0)) (fun K => ?_) Ev.pure, .inl rfl⟩
        rw [asm_address.j0, if_neg hn, if_pos (by omega), if_pos h1, hv, Option.bind_some, ho, Option.bind_some, if_pos b1]
      by_cases b2 : o = 4611686018427387904
      · refine ⟨(256, 0), Ev.step_ (g := fun _ => some (256, 0)) (fun K => ?_) Ev.pure, .inl rfl⟩
        rw [asm_address.j0, if_neg hn, if_pos (by omega), if_pos h1, hv, Option.bind_some, ho, Option.bind_some, if_neg b1, if_pos b2]
      · refine ⟨(v, IntKind.i16.wrap o), Ev.step_ (g := fun _ => some (v, IntKind.i16.wrap o)) (fun K => ?_) Ev.pure, .inr ⟨hr.resolve_left b1, ?_⟩⟩
        · rw [asm_address.j0, if_neg hn, if_pos (by omega), if_pos h1, hv, Option.bind_some, ho, Option.bind_some, if_neg b1, if_neg b2]
        · show -32768 ≤ IntKind.i16.wrap o ∧ IntKind.i16.wrap o ≤ 32767
          simp only [IntKind.wrap, IntKind.bits, IntKind.signed]
          simp; omega
  have hsz : (x.data.toList.length : Int) = x.size := by rw [Array.length_toList]; rfl
  obtain ⟨a0, a1⟩ := ib_range x.data.toList 43
  obtain ⟨b0, b1⟩ := ib_range x.data.toList 45
  unfold asm_address.f strings_IndexByte.f
  by_cases h : Lib.indexByte x.data.toList 43 < 0
  · obtain ⟨r, hr, hok⟩ := hj (Lib.indexByte x.data.toList 45) b0 (by omega)
    exact ⟨r, Ev.eqn (fun K => if_pos h) hr, hok⟩
  · obtain ⟨r, hr, hok⟩ := hj (Lib.indexByte x.data.toList 43) a0 (by omega)
    exact ⟨r, Ev.eqn (fun K => if_neg h) hr, hok⟩
end Go.Proofs.YtondogoepcndiaaDoor.Pure

/- Chapter 03, plain: reading any line comes to an end, with fields in their bounds. No conditions but the ones each theorem names. -/
namespace Go.Proofs.YtondogoepcndiaaDoor.Pure
open Go.RowKit Go.Proofs.YtondogoepcndiaaDoorW.PrintWords Go.Proofs.YtondogoepcndiaaDoorW.PrintLast Go.Proofs.YtondogoepcndiaaDoorW.PrintMore Go.Proofs.YtondogoepcndiaaDoor.P
set_option linter.unusedVariables false
set_option linter.unusedSimpArgs false

abbrev T11 := Int × Int × Int × Bool × Bool × Int × Int × Int × Int × Int × Int
def Rd (x : T11) : Prop := x.1 = -1 ∨ ∃ w : W5, ∃ f : Fl, f.In ∧ x = (w.1, w.2.1, w.2.2.1, w.2.2.2.1, w.2.2.2.2, 0, f.d, f.s, f.o, f.n, f.h)
def mk11 : T11 := ((-1), 0, 0, false, false, 0, 0, 0, 0, 0, 0)
theorem rd_mk : Rd mk11 := .inl rfl
theorem w16r (o : Int) : -32768 ≤ IntKind.i16.wrap o ∧ IntKind.i16.wrap o ≤ 32767 := by
  simp only [IntKind.wrap, IntKind.bits, IntKind.signed]
  simp; omega
theorem w32r (o : Int) : -2147483648 ≤ wrap32 o ∧ wrap32 o ≤ 2147483647 := by unfold wrap32; omega
def U8 (x : Int) : Prop := 0 ≤ x ∧ x ≤ 255
def I16 (x : Int) : Prop := -32768 ≤ x ∧ x ≤ 32767
def I32 (x : Int) : Prop := -2147483648 ≤ x ∧ x ≤ 2147483647
theorem zU : U8 0 := ⟨by omega, by omega⟩
theorem zO : I16 0 := ⟨by omega, by omega⟩
theorem zN : I32 0 := ⟨by omega, by omega⟩
theorem ex_step {f g : Nat → Option T11} (h : ∀ K, f (K + 1) = g K) (hg : ∃ x, Ev g x ∧ Rd x) : ∃ x, Ev f x ∧ Rd x := by
  obtain ⟨x, hx, hr⟩ := hg
  exact ⟨x, Ev.step_ h hx, hr⟩
theorem ex_eqn {f g : Nat → Option T11} (h : ∀ K, f K = g K) (hg : ∃ x, Ev g x ∧ Rd x) : ∃ x, Ev f x ∧ Rd x := by
  obtain ⟨x, hx, hr⟩ := hg
  exact ⟨x, Ev.eqn h hx, hr⟩
theorem read_j3 (x9 : List ByteArray) (hz : ∀ i, (rdOf ByteArray.empty x9 i).size ≤ 100000) (h c o z : Int) (b1 b2 : Bool) (d s f n : Int) (hh : I32 h) (hd : U8 d) (hs : U8 s) (hf : I16 f) (hn : I32 n) : ∃ x, Ev (fun k => asm_read.j3 k h c o z b1 b2 0 d s f n) x ∧ Rd x := by
  refine ⟨(c, o, z, b1, b2, 0, d, s, f, n, h), Ev.step_ (g := fun _ => some (c, o, z, b1, b2, 0, d, s, f, n, h)) (fun K => ?_) Ev.pure, .inr ⟨(c, o, z, b1, b2), ⟨d, s, f, n, h⟩, ⟨hd, hs, hf, hn, hh⟩, rfl⟩⟩
  rw [asm_read.j3]
theorem read_j2 (x9 : List ByteArray) (hz : ∀ i, (rdOf ByteArray.empty x9 i).size ≤ 100000) (h c o z : Int) (b1 b2 : Bool) (d s f n : Int) (hh : I32 h) (hd : U8 d) (hs : U8 s) (hf : I16 f) (hn : I32 n) : ∃ x, Ev (fun k => asm_read.j2 k x9 h c o z b1 b2 0 d s f n) x ∧ Rd x := by
  by_cases c1 : (x9.length : Int) > 2
  · obtain ⟨v, hv⟩ := num_total (rdOf ByteArray.empty x9 2) (hz 2) 16 (.inr (.inl rfl))
    by_cases b : v = 4611686018427387904
    · refine ⟨mk11, Ev.step_ (g := fun _ => some mk11) (fun K => ?_) Ev.pure, rd_mk⟩
      rw [asm_read.j2, if_pos c1, if_pos (by omega), hv, Option.bind_some, if_pos b]; rfl
    · obtain ⟨x, hx, hr⟩ := read_j3 x9 hz h c o z b1 b2 d s (IntKind.i16.wrap v) n hh hd hs (w16r v) hn
      refine ⟨x, Ev.step_ (fun K => ?_) hx, hr⟩
      rw [asm_read.j2, if_pos c1, if_pos (by omega), hv, Option.bind_some, if_neg b]
  · obtain ⟨x, hx, hr⟩ := read_j3 x9 hz h c o z b1 b2 d s f n hh hd hs hf hn
    refine ⟨x, Ev.step_ (fun K => ?_) hx, hr⟩
    rw [asm_read.j2, if_neg c1]
theorem ev_reg (x9 : List ByteArray) (hz : ∀ i, (rdOf ByteArray.empty x9 i).size ≤ 100000) (i : Int) (g : Nat → Int → Option T11) (hg : ∀ v, U8 v → ∃ x, Ev (fun k => g k v) x ∧ Rd x) :
    ∃ x, Ev (fun k => (asm_register.f (rdOf ByteArray.empty x9 i)).bind fun t => if t = 256 then some ((-1), 0, 0, false, false, 0, 0, 0, 0, 0, 0) else g k t) x ∧ Rd x := by
  obtain ⟨v, hv, hr⟩ := reg_total (rdOf ByteArray.empty x9 i) (hz i)
  rw [hv]
  by_cases b : v = 256
  · exact ⟨mk11, Ev.eqn (g := fun _ => some mk11) (fun K => by rw [Option.bind_some, if_pos b]; rfl) Ev.pure, rd_mk⟩
  · obtain ⟨x, hx, hR⟩ := hg v (hr.resolve_left b)
    exact ⟨x, Ev.eqn (fun K => by rw [Option.bind_some, if_neg b]) hx, hR⟩
theorem ev_num (x9 : List ByteArray) (hz : ∀ i, (rdOf ByteArray.empty x9 i).size ≤ 100000) (i b : Int) (hb : b = 8 ∨ b = 16 ∨ b = 32) (g : Nat → Int → Option T11) (hg : ∀ v, ∃ x, Ev (fun k => g k v) x ∧ Rd x) :
    ∃ x, Ev (fun k => (asm_number.f (rdOf ByteArray.empty x9 i) b).bind fun t => if t = 4611686018427387904 then some ((-1), 0, 0, false, false, 0, 0, 0, 0, 0, 0) else g k t) x ∧ Rd x := by
  obtain ⟨v, hv⟩ := num_total (rdOf ByteArray.empty x9 i) (hz i) b hb
  rw [hv]
  by_cases b : v = 4611686018427387904
  · exact ⟨mk11, Ev.eqn (g := fun _ => some mk11) (fun K => by rw [Option.bind_some, if_pos b]; rfl) Ev.pure, rd_mk⟩
  · obtain ⟨x, hx, hR⟩ := hg v
    exact ⟨x, Ev.eqn (fun K => by rw [Option.bind_some, if_neg b]) hx, hR⟩
theorem ev_adr (x9 : List ByteArray) (hz : ∀ i, (rdOf ByteArray.empty x9 i).size ≤ 100000) (i : Int) (g : Nat → Int × Int → Option T11) (hg : ∀ v : Int × Int, U8 v.1 → I16 v.2 → ∃ x, Ev (fun k => g k v) x ∧ Rd x) :
    ∃ x, Ev (fun k => (asm_address.f k (rdOf ByteArray.empty x9 i)).bind fun t => if t.1 = 256 then some ((-1), 0, 0, false, false, 0, 0, 0, 0, 0, 0) else g k t) x ∧ Rd x := by
  obtain ⟨v, hv, hr⟩ := adr_total (rdOf ByteArray.empty x9 i) (hz i)
  by_cases b : v.1 = 256
  · exact ⟨mk11, Ev.bind_ hv (Ev.eqn (g := fun _ => some mk11) (fun K => by rw [if_pos b]; rfl) Ev.pure), rd_mk⟩
  · obtain ⟨x, hx, hR⟩ := hg v (hr.resolve_left b).1 (hr.resolve_left b).2
    exact ⟨x, Ev.bind_ hv (Ev.eqn (fun K => by rw [if_neg b]) hx), hR⟩
theorem pre_total (x9 : List ByteArray) (hz : ∀ i, (rdOf ByteArray.empty x9 i).size ≤ 100000) (x p : ByteArray) : ∃ b, strings_HasPrefix.f x p = some b := by
  unfold strings_HasPrefix.f stringslite_HasPrefix.f
  by_cases h : (x.size : Int) ≥ (p.size : Int)
  · rw [if_pos h, if_pos (by omega), if_pos (by omega)]; exact ⟨_, rfl⟩
  · rw [if_neg h]; exact ⟨_, rfl⟩
theorem ev_uint (x9 : List ByteArray) (hz : ∀ i, (rdOf ByteArray.empty x9 i).size ≤ 100000) (i : Int) (g : Nat → Int × Option Int → Option T11) (hg : ∀ v, ∃ x, Ev (fun k => g k v) x ∧ Rd x) :
    ∃ x, Ev (fun k => (strconv_ParseUint_57.f (rdOf ByteArray.empty x9 i) 10 64).bind fun t => if t.2.isNone = true then g k t else some ((-1), 0, 0, false, false, 0, 0, 0, 0, 0, 0)) x ∧ Rd x := by
  have h : ∃ v, strconv_ParseUint_57.f (rdOf ByteArray.empty x9 i) 10 64 = some v := by
    unfold strconv_ParseUint_57.f
    rw [if_pos ⟨by have := hz i; omega, rfl, rfl⟩]; exact ⟨_, rfl⟩
  obtain ⟨v, hv⟩ := h
  rw [hv]
  by_cases b : v.2.isNone = true
  · obtain ⟨x, hx, hR⟩ := hg v
    exact ⟨x, Ev.eqn (fun K => by rw [Option.bind_some, if_pos b]) hx, hR⟩
  · exact ⟨mk11, Ev.eqn (g := fun _ => some mk11) (fun K => by rw [Option.bind_some, if_neg b]; rfl) Ev.pure, rd_mk⟩
def opsV (c o : Int) : Int := if c = 9 then 0 else if c = 7 ∨ c = 8 ∨ c = 2 ∨ (c = 1 ∧ o = 8) then 1 else if c = 6 then 3 else 2
theorem read_j1t (x9 : List ByteArray) (hz : ∀ i, (rdOf ByteArray.empty x9 i).size ≤ 100000) (c o z : Int) (b1 b2 : Bool) (x35 : Bool) (h35 : x35 = true ↔ c = 1 ∨ c = 6) (hl : (x9.length : Int) = opsV c o) :
    ∃ x, Ev (fun k => asm_read.j1 k x9 0 c x35 c o z b1 b2 0 0 0 0 0) x ∧ Rd x := by
  unfold opsV at hl
  by_cases c16 : c = 1 ∨ c = 6
  · have e35 := h35.2 c16
    have l0 : 0 < (x9.length : Int) := by
      rw [if_neg (by omega)] at hl
      split at hl
      · omega
      · split at hl <;> omega
    apply ex_step
    · intro K; rw [asm_read.j1, if_pos e35, if_pos l0]
    refine ev_reg x9 hz 0 _ fun v hv => ?_
    by_cases l1 : (x9.length : Int) > 1
    · obtain ⟨b, hb⟩ := pre_total x9 hz (rdOf ByteArray.empty x9 1) (⟨#[114]⟩ : ByteArray)
      apply ex_eqn
      · intro K; rw [if_pos l1, if_pos (by omega), hb, Option.bind_some]
      cases b with
      | true =>
        apply ex_eqn
        · intro K; rw [if_pos rfl]
        exact ev_reg x9 hz 1 _ fun u hu => read_j2 x9 hz 0 c o z b1 true v u 0 0 zN hv hu zO zN
      | false =>
        apply ex_eqn
        · intro K; rw [if_neg (by decide)]
        exact ev_num x9 hz 1 32 (.inr (.inr rfl)) _ fun u => read_j2 x9 hz 0 c o z b1 false v 0 0 (wrap32 u) zN hv zU zO (w32r u)
    · apply ex_eqn
      · intro K; rw [if_neg l1]
      exact read_j2 x9 hz 0 c o z b1 b2 v 0 0 0 zN hv zU zO zN
  · have e35 : ¬ x35 = true := fun h => c16 (h35.1 h)
    apply ex_step
    · intro K; rw [asm_read.j1, if_neg e35]
    by_cases h2 : c = 2
    · have l0 : 0 < (x9.length : Int) := by rw [if_neg (by omega), if_pos (by omega)] at hl; omega
      apply ex_eqn
      · intro K; rw [if_pos h2, if_pos l0]
      exact ev_reg x9 hz 0 _ fun v hv => read_j3 x9 hz 0 c o z b1 b2 v 0 0 0 zN hv zU zO zN
    by_cases h3 : c = 3
    · have l0 : 1 < (x9.length : Int) := by rw [if_neg (by omega), if_neg (by omega), if_neg (by omega)] at hl; omega
      apply ex_eqn
      · intro K; rw [if_neg h2, if_pos h3, if_pos (by omega)]
      refine ev_reg x9 hz 0 _ fun v hv => ?_
      apply ex_eqn
      · intro K; rw [if_pos l0]
      exact ev_adr x9 hz 1 _ fun u hu ho => read_j3 x9 hz 0 c o z b1 b2 v u.1 u.2 0 zN hv hu ho zN
    by_cases h4 : c = 4
    · have l0 : 1 < (x9.length : Int) := by rw [if_neg (by omega), if_neg (by omega), if_neg (by omega)] at hl; omega
      apply ex_eqn
      · intro K; rw [if_neg h2, if_neg h3, if_pos h4, if_pos (by omega)]
      refine ev_adr x9 hz 0 _ fun u hu ho => ?_
      apply ex_eqn
      · intro K; rw [if_pos l0]
      exact ev_reg x9 hz 1 _ fun v hv => read_j3 x9 hz 0 c o z b1 b2 u.1 v u.2 0 zN hu hv ho zN
    by_cases h5 : c = 5
    · have l0 : 1 < (x9.length : Int) := by rw [if_neg (by omega), if_neg (by omega), if_neg (by omega)] at hl; omega
      apply ex_eqn
      · intro K; rw [if_neg h2, if_neg h3, if_neg h4, if_pos h5, if_pos (by omega)]
      refine ev_adr x9 hz 0 _ fun u hu ho => ?_
      apply ex_eqn
      · intro K; rw [if_pos l0]
      exact ev_num x9 hz 1 32 (.inr (.inr rfl)) _ fun v => read_j3 x9 hz 0 c o z b1 b2 u.1 0 u.2 (wrap32 v) zN hu zU ho (w32r v)
    by_cases h7 : c = 7
    · have l0 : 0 < (x9.length : Int) := by rw [if_neg (by omega), if_pos (by omega)] at hl; omega
      apply ex_eqn
      · intro K; rw [if_neg h2, if_neg h3, if_neg h4, if_neg h5, if_pos h7, if_pos l0]
      exact ev_num x9 hz 0 16 (.inr (.inl rfl)) _ fun v => read_j3 x9 hz 0 c o z b1 b2 0 0 (IntKind.i16.wrap v) 0 zN zU zU (w16r v) zN
    by_cases h8 : c = 8
    · have l0 : 0 < (x9.length : Int) := by rw [if_neg (by omega), if_pos (by omega)] at hl; omega
      apply ex_eqn
      · intro K; rw [if_neg h2, if_neg h3, if_neg h4, if_neg h5, if_neg h7, if_pos h8, if_pos l0]
      exact ev_num x9 hz 0 32 (.inr (.inr rfl)) _ fun v => read_j3 x9 hz 0 c o z b1 b2 0 0 0 (wrap32 v) zN zU zU zO (w32r v)
    by_cases h10 : c = 10
    · have l0 : 1 < (x9.length : Int) := by rw [if_neg (by omega), if_neg (by omega), if_neg (by omega)] at hl; omega
      apply ex_eqn
      · intro K; rw [if_neg h2, if_neg h3, if_neg h4, if_neg h5, if_neg h7, if_neg h8, if_pos h10, if_pos (by omega)]
      refine ev_reg x9 hz 0 _ fun v hv => ?_
      apply ex_eqn
      · intro K; rw [if_pos l0]
      exact ev_uint x9 hz 1 _ fun u => read_j3 x9 hz _ c o z b1 b2 v 0 0 _ (w32r _) hv zU zO (w32r _)
    by_cases h11 : c = 11
    · have l0 : 1 < (x9.length : Int) := by rw [if_neg (by omega), if_neg (by omega), if_neg (by omega)] at hl; omega
      apply ex_eqn
      · intro K; rw [if_neg h2, if_neg h3, if_neg h4, if_neg h5, if_neg h7, if_neg h8, if_neg h10, if_pos h11, if_pos (by omega)]
      refine ev_reg x9 hz 0 _ fun v hv => ?_
      apply ex_eqn
      · intro K; rw [if_pos l0]
      exact ev_num x9 hz 1 32 (.inr (.inr rfl)) _ fun u => read_j3 x9 hz 0 c o z b1 b2 v 0 0 (wrap32 u) zN hv zU zO (w32r u)
    apply ex_eqn
    · intro K; rw [if_neg h2, if_neg h3, if_neg h4, if_neg h5, if_neg h7, if_neg h8, if_neg h10, if_neg h11]
    exact read_j3 x9 hz 0 c o z b1 b2 0 0 0 0 zN zU zU zO zN
theorem splitB_sizes (sep : ByteArray) : ∀ (k : Nat) (s : ByteArray), ∀ p ∈ Lib.splitB sep 0 k s, p.size ≤ s.size := by
  intro k
  induction k with
  | zero => intro s p hp; rw [Lib.splitB_zero, List.mem_singleton] at hp; rw [hp]; exact Nat.le_refl _
  | succ k ih =>
    intro s p hp
    rw [Lib.splitB] at hp
    split at hp
    · rw [List.mem_singleton] at hp; rw [hp]; exact Nat.le_refl _
    · rcases List.mem_cons.1 hp with rfl | hp
      · rw [ByteArray.size_extract]; omega
      · have := ih _ p hp
        rw [ByteArray.size_extract] at this; omega
theorem rd_size {l : List ByteArray} (h : ∀ p ∈ l, p.size ≤ 100000) (i : Int) : (rdOf ByteArray.empty l i).size ≤ 100000 := by
  unfold rdOf
  rw [List.getD_eq_getElem?_getD]
  cases e : l[i.toNat]? with
  | none => exact Nat.zero_le _
  | some p => exact h p (List.mem_of_getElem? e)
theorem ops_eq (c o z : Int) (b1 b2 : Bool) (k : Nat) : asm_operands.f (k + 1) c o z b1 b2 = some (opsV c o) := by
  unfold asm_operands.f opsV
  by_cases h9 : c = 9
  · rw [if_pos h9, if_pos h9]
  rw [if_neg h9, if_neg h9]
  by_cases h7 : c = 7
  · rw [if_pos h7, asm_operands.j0, if_pos rfl, if_pos (.inl h7)]
  rw [if_neg h7]
  by_cases h8 : c = 8
  · rw [if_pos h8, asm_operands.j0, if_pos rfl, if_pos (.inr (.inl h8))]
  rw [if_neg h8]
  by_cases h2 : c = 2
  · rw [if_pos h2, asm_operands.j0, if_pos rfl, if_pos (.inr (.inr (.inl h2)))]
  rw [if_neg h2]
  by_cases h1 : c = 1
  · rw [if_pos h1, asm_operands.j0]
    by_cases ho : o = 8
    · rw [if_pos (by simp [ho]), if_pos (.inr (.inr (.inr ⟨h1, ho⟩)))]
    · rw [if_neg (by simp [ho]), if_neg (show ¬ c = 6 by omega), if_neg (show ¬ (c = 7 ∨ c = 8 ∨ c = 2 ∨ (c = 1 ∧ o = 8)) by omega), if_neg (show ¬ c = 6 by omega)]
  · rw [if_neg h1, asm_operands.j0, if_neg (by decide), if_neg (show ¬ (c = 7 ∨ c = 8 ∨ c = 2 ∨ (c = 1 ∧ o = 8)) by omega)]
    split <;> rfl
theorem read_total (s : List UInt8) (hs : s.length ≤ 100000) : ∃ x, Ev (fun k => asm_read.f k ⟨s.toArray⟩) x ∧ Rd x := by
  have hj : ∀ (l : List ByteArray) (c o z : Int) (b1 b2 : Bool), (∀ p ∈ l, p.size ≤ 100000) → ∃ x, Ev (fun k => asm_read.j0 k l c o z b1 b2) x ∧ Rd x := by
    intro l c o z b1 b2 hl
    apply ex_step
    · intro K; rw [asm_read.j0]
    have ho : Ev (fun k => asm_operands.f k c o z b1 b2) (opsV c o) := Ev.eq_ 1 fun k => ops_eq c o z b1 b2 k
    by_cases e : (l.length : Int) = opsV c o
    · obtain ⟨x, hx, hr⟩ := read_j1t l (rd_size hl) c o z b1 b2 (if c = 1 then (c == 1) else (c == 6)) (by
        by_cases h1 : c = 1
        · rw [if_pos h1]; simp [h1]
        · rw [if_neg h1]; simp [h1]) e
      refine ⟨x, Ev.bind_ ho (Ev.eqn (fun K => ?_) hx), hr⟩
      rw [if_pos e]
      by_cases h1 : c = 1
      · rw [if_pos h1, if_pos h1]
      · rw [if_neg h1, if_neg h1]
    · exact ⟨mk11, Ev.bind_ ho (Ev.eqn (g := fun _ => some mk11) (fun K => by rw [if_neg e]; rfl) Ev.pure), rd_mk⟩
  unfold asm_read.f
  rw [show (⟨#[32]⟩ : ByteArray) = ⟨[32].toArray⟩ from rfl, Cut_eq _ _ (by omega)]
  have hcl : (Lib.cut s [32]).1.length ≤ s.length ∧ (Lib.cut s [32]).2.1.length ≤ s.length := by
    unfold Lib.cut
    split
    · simp only [List.length_take, List.length_drop]; omega
    · simp
  simp only [Option.bind_some]
  obtain ⟨v, hv⟩ := verb_total ⟨(Lib.cut s [32]).1.toArray⟩ (by rw [mk_size]; omega)
  by_cases h1 : v.1 = -1
  · exact ⟨mk11, Ev.bind_ hv (Ev.eqn (g := fun _ => some mk11) (fun K => by rw [if_pos h1]; rfl) Ev.pure), rd_mk⟩
  by_cases h2 : (Lib.cut s [32]).2.2 = true
  · have hsp : ∃ l, strings_Split.f ⟨(Lib.cut s [32]).2.1.toArray⟩ ⟨#[44, 32]⟩ = some l ∧ ∀ p ∈ l, p.size ≤ 100000 := by
      unfold strings_Split.f
      rw [if_pos ⟨by rw [mk_size]; omega, by decide⟩]
      refine ⟨_, rfl, fun p hp => ?_⟩
      have := splitB_sizes _ _ _ p hp
      rw [mk_size (Lib.cut s [32]).2.1] at this; omega
    obtain ⟨l, hl, hp⟩ := hsp
    obtain ⟨x, hx, hr⟩ := hj l v.1 v.2.1 v.2.2.1 v.2.2.2.1 v.2.2.2.2 hp
    refine ⟨x, Ev.bind_ hv (Ev.eqn (fun K => ?_) hx), hr⟩
    rw [if_neg h1, if_pos h2, hl, Option.bind_some]
  · obtain ⟨x, hx, hr⟩ := hj [] v.1 v.2.1 v.2.2.1 v.2.2.2.1 v.2.2.2.2 (by simp)
    refine ⟨x, Ev.bind_ hv (Ev.eqn (fun K => ?_) hx), hr⟩
    rw [if_neg h1, if_neg h2]
end Go.Proofs.YtondogoepcndiaaDoor.Pure

/- Chapter 03, plain: what Of and Print come to. No conditions but the ones each theorem names. -/
namespace Go.Proofs.YtondogoepcndiaaDoor.Pure
open Go.RowKit Go.Proofs.YtondogoepcndiaaDoorW.PrintWords Go.Proofs.YtondogoepcndiaaDoorW.PrintLast Go.Proofs.YtondogoepcndiaaDoorW.PrintMore Go.Proofs.YtondogoepcndiaaDoor.P
set_option linter.unusedVariables false
set_option linter.unusedSimpArgs false

def kOf (w : W5) (r : Int) : Int × Int × Int × Bool × Bool × Int := (w.1, w.2.1, w.2.2.1, w.2.2.2.1, w.2.2.2.2, r)
def bad1 (f : Bool × Bool × Bool × Bool × Bool) (dst src : Int) : Prop := f.1 = true ∧ dst > 10 ∨ f.2.1 = true ∧ dst = 10 ∨ f.2.2.1 = true ∧ src > 10
def bad2 (f : Bool × Bool × Bool × Bool × Bool) (c dst src off imm : Int) : Prop := f.1 = false ∧ dst ≠ 0 ∨ f.2.2.1 = false ∧ src ≠ 0 ∧ c ≠ 11 ∨ f.2.2.2.1 = false ∧ off ≠ 0 ∨ f.2.2.2.2 = false ∧ imm ≠ 0
theorem of_cases (op dst src off imm : Int) :
    ofV op dst src off imm = (0, 0, 0, false, false, 20) ∧ (kindV op src imm).1 = 0 ∨ ofV op dst src off imm = (0, 0, 0, false, false, 21) ∧ (kindV op src imm).1 ≠ 0 ∨ ofV op dst src off imm = (0, 0, 0, false, false, 22) ∧ (kindV op src imm).1 ≠ 0 ∨
      ofV op dst src off imm = kOf (kindV op src imm) 0 ∧ (kindV op src imm).1 ≠ 0 ∧ ¬ bad1 (fieldsV (kindV op src imm)) dst src ∧ ¬ bad2 (fieldsV (kindV op src imm)) (kindV op src imm).1 dst src off imm := by
  unfold ofV kOf bad1 bad2
  by_cases h0 : (kindV op src imm).1 = 0
  · left; exact ⟨by rw [if_pos h0], h0⟩
  · right
    by_cases h1 : (fieldsV (kindV op src imm)).1 = true ∧ dst > 10 ∨ (fieldsV (kindV op src imm)).2.1 = true ∧ dst = 10 ∨ (fieldsV (kindV op src imm)).2.2.1 = true ∧ src > 10
    · left; exact ⟨by rw [if_neg h0, if_pos h1], h0⟩
    · right
      by_cases h2 : (fieldsV (kindV op src imm)).1 = false ∧ dst ≠ 0 ∨ (fieldsV (kindV op src imm)).2.2.1 = false ∧ src ≠ 0 ∧ (kindV op src imm).1 ≠ 11 ∨ (fieldsV (kindV op src imm)).2.2.2.1 = false ∧ off ≠ 0 ∨ (fieldsV (kindV op src imm)).2.2.2.2 = false ∧ imm ≠ 0
      · left; exact ⟨by rw [if_neg h0, if_neg h1, if_pos h2], h0⟩
      · right; exact ⟨by rw [if_neg h0, if_neg h1, if_neg h2], h0, h1, h2⟩
theorem of_ok {op dst src off imm : Int} (h : (ofV op dst src off imm).2.2.2.2.2 = 0) :
    ofV op dst src off imm = kOf (kindV op src imm) 0 ∧ (kindV op src imm).1 ≠ 0 ∧ ¬ bad1 (fieldsV (kindV op src imm)) dst src ∧ ¬ bad2 (fieldsV (kindV op src imm)) (kindV op src imm).1 dst src off imm := by
  rcases of_cases op dst src off imm with h' | h' | h' | h'
  · rw [h'.1] at h; exact absurd h (by decide)
  · rw [h'.1] at h; exact absurd h (by decide)
  · rw [h'.1] at h; exact absurd h (by decide)
  · exact h'
theorem of_no {op dst src off imm : Int} (h : (ofV op dst src off imm).2.2.2.2.2 ≠ 0) : ∃ r, ofV op dst src off imm = (0, 0, 0, false, false, r) ∧ r ≠ 0 := by
  rcases of_cases op dst src off imm with h' | h' | h' | h'
  · exact ⟨20, h'.1, by decide⟩
  · exact ⟨21, h'.1, by decide⟩
  · exact ⟨22, h'.1, by decide⟩
  · rw [h'.1] at h; exact absurd rfl h

/-- An instruction's fields are in their types' bounds. -/
def Tyd (x : S37) : Prop := (0 ≤ x.f0 ∧ x.f0 ≤ 255) ∧ (0 ≤ x.f1 ∧ x.f1 ≤ 255) ∧ (0 ≤ x.f2 ∧ x.f2 ≤ 255) ∧ (-32768 ≤ x.f3 ∧ x.f3 ≤ 32767) ∧ (-2147483648 ≤ x.f4 ∧ x.f4 ≤ 2147483647)
def ofX (x : S37) : Int × Int × Int × Bool × Bool × Int := ofV x.f0 x.f1 x.f2 x.f3 x.f4
def wX (x : S37) : W5 := ((ofX x).1, (ofX x).2.1, (ofX x).2.2.1, (ofX x).2.2.2.1, (ofX x).2.2.2.2.1)
def flX (x : S37) (h : Int) : Fl := ⟨x.f1, x.f2, x.f3, x.f4, h⟩
theorem flX_in {x : S37} (hx : Tyd x) {h : Int} (h0 : -2147483648 ≤ h) (h1 : h ≤ 2147483647) : (flX x h).In := ⟨hx.2.1, hx.2.2.1, hx.2.2.2.1, hx.2.2.2.2, h0, h1⟩
theorem Of_ev {x : S37} (hx : Tyd x) : Ev (fun k => insn_Of.f k x.f0 x.f1 x.f2 x.f3 x.f4) (ofX x) :=
  Ev.eq_ 4 fun k => Of_eq k hx.1.1 hx.1.2 hx.2.2.1.1 hx.2.2.1.2 hx.2.2.2.2.1 hx.2.2.2.2.2
theorem of_row {x : S37} (hx : Tyd x) (h : (ofX x).2.2.2.2.2 = 0) : IsRow (wX x) ∧ wX x = kindV x.f0 x.f2 x.f4 := by
  obtain ⟨e, hz, _⟩ := of_ok h
  have e2 : wX x = kindV x.f0 x.f2 x.f4 := by unfold wX ofX; rw [e]; rfl
  refine ⟨?_, e2⟩
  rw [e2]
  rcases kind_row (op := x.f0) (s := x.f2) (i := x.f4) hx.1 hx.2.2.1 with h' | h'
  · rw [h'] at hz; exact absurd rfl hz
  · exact h'

/-! Print -/
def halfOk (c : Int) (y : S37) : Prop := y.f0 = 0 ∧ y.f1 = 0 ∧ y.f2 = 0 ∧ y.f3 = 0 ∧ (c = 11 → y.f4 = 0)
instance (c : Int) (y : S37) : Decidable (halfOk c y) := by unfold halfOk; infer_instance
def printR : List S37 → List UInt8 → List UInt8 × Int
  | [], acc => (acc, 0)
  | x :: t, acc => if (ofX x).2.2.2.2.2 = 0 then
      (if (ofX x).1 ≥ 10 then (match t with
        | [] => ([], 23)
        | y :: t' => if halfOk (ofX x).1 y then printR t' (acc ++ lineL (wX x) (flX x y.f4) ++ [10]) else ([], 23))
      else printR t (acc ++ lineL (wX x) (flX x 0) ++ [10]))
    else ([], (ofX x).2.2.2.2.2)
def printV (l : List S37) : List UInt8 × Int := if l.length > 512 then ([], 3) else printR l []
def asB (r : List UInt8 × Int) : ByteArray × Int := (⟨r.1.toArray⟩, r.2)
theorem rd37 {l : List S37} {i : Nat} (h : i < l.length) : rd_T37 l (i : Int) = l[i] := by
  unfold rd_T37
  rw [Int.toNat_natCast, List.getD_eq_getElem?_getD, List.getElem?_eq_getElem h]; rfl
theorem dropC {α : Type} {l : List α} {i : Nat} (h : i < l.length) : l.drop i = l[i] :: l.drop (i + 1) := List.drop_eq_getElem_cons h
end Go.Proofs.YtondogoepcndiaaDoor.Pure

/- Chapter 03: Make in plain terms. -/
namespace Go.Proofs.YtondogoepcndiaaDoor.Pure
open Go.RowKit Go.Proofs.YtondogoepcndiaaDoorW.PrintWords Go.Proofs.YtondogoepcndiaaDoorW.PrintLast Go.Proofs.YtondogoepcndiaaDoorW.PrintMore Go.Proofs.YtondogoepcndiaaDoor.P
set_option linter.unusedVariables false
set_option linter.unusedSimpArgs false

/-- What Make answers once it has an Op, a Src and an Imm. -/
def finish (w : W5) (op dst src off imm : Int) : Int × Int × Int × Int × Int × Int :=
  if w = zeroV ∨ kindV op src imm ≠ w then (0, 0, 0, 0, 0, 1)
  else if (ofV op dst src off imm).2.2.2.2.2 = 0 then (op, dst, src, off, imm, 0) else (0, 0, 0, 0, 0, (ofV op dst src off imm).2.2.2.2.2)
def low (w : W5) : Int := if w.2.2.2.2 = true then 8 else 0
theorem B_or {x y : Int} (hx : B x) (hy : B y) : B (Go.bits .or .u8 x y) := by
  rw [u8_or x y hx.1 (by have := hx.2; omega) hy.1 (by have := hy.2; omega)]
  have h := Nat.or_lt_two_pow (n := 8) (x := x.toNat) (y := y.toNat) (by have := hx.2; have := hx.1; omega) (by have := hy.2; have := hy.1; omega)
  exact ⟨by omega, by omega⟩
theorem B_xor {x y : Int} (hx : B x) (hy : B y) : B (Go.bits .xor .u8 x y) := by
  rw [u8_xor x y hx.1 (by have := hx.2; omega) hy.1 (by have := hy.2; omega)]
  have h := Nat.xor_lt_two_pow (n := 8) (x := x.toNat) (y := y.toNat) (by have := hx.2; have := hx.1; omega) (by have := hy.2; have := hy.1; omega)
  exact ⟨by omega, by omega⟩
def step (size : Int) (o : Int) (x : Int) : Int := if rd gl2 x = size then Go.bits .or .u8 o ((((x) % 256) * 8) % 256) else o
/-- The Op that Make comes to. -/
def opM (w : W5) : Int :=
  if w.1 = 1 then (if w.2.2.2.1 = true then Go.bits .or .u8 (Go.bits .or .u8 (Go.bits .or .u8 ((((w.2.1) % 256) * 16) % 256) (low w)) 4) 3 else Go.bits .or .u8 (Go.bits .or .u8 ((((w.2.1) % 256) * 16) % 256) (low w)) 4)
  else if w.1 = 6 then (if w.2.2.2.1 = true then Go.bits .xor .u8 (Go.bits .or .u8 (Go.bits .or .u8 ((((w.2.1) % 256) * 16) % 256) (low w)) 6) 3 else Go.bits .or .u8 (Go.bits .or .u8 ((((w.2.1) % 256) * 16) % 256) (low w)) 6)
  else if w.1 = 2 then 215
  else if w.1 = 3 ∨ w.1 = 4 ∨ w.1 = 5 then step w.2.2.1 (step w.2.2.1 (step w.2.2.1 (step w.2.2.1 (Go.bits .or .u8 96 (rdOf (0 : Int) ([0, 0, 0, 1, 3, 2] : List Int) w.1)) 0) 1) 2) 3
  else rdOf (0 : Int) ([0, 0, 0, 0, 0, 0, 0, 5, 133, 149, 24, 24] : List Int) (mx 0 (mn w.1 11))
def srcM (w : W5) (src : Int) : Int := if w.1 ≥ 10 then ((mx 0 (mn w.1 12)) - 10) % 256 else src
def immM (w : W5) (imm : Int) : Int := if w.1 = 2 then wrap32 (wrap64 (8 * (Go.bits .and .i64 w.2.2.1 15))) else imm
theorem B_step {s o x : Int} (ho : B o) : B (step s o x) := by
  unfold step; split
  · exact B_or ho ⟨by omega, by omega⟩
  · exact ho
theorem B_low (w : W5) : B (low w) := by unfold low; split <;> exact ⟨by omega, by omega⟩
theorem B_opM (w : W5) : B (opM w) := by
  have hb : B ((((w.2.1) % 256) * 16) % 256) := ⟨by omega, by omega⟩
  have h3 : B 3 := ⟨by omega, by omega⟩
  have h4 : B 4 := ⟨by omega, by omega⟩
  have h6 : B 6 := ⟨by omega, by omega⟩
  have hl := B_low w
  unfold opM
  repeat' split
  · exact B_or (B_or (B_or hb hl) h4) h3
  · exact B_or (B_or hb hl) h4
  · exact B_xor (B_or (B_or hb hl) h6) h3
  · exact B_or (B_or hb hl) h6
  · exact ⟨by omega, by omega⟩
  · rename_i h
    refine B_step (B_step (B_step (B_step (B_or ⟨by omega, by omega⟩ ?_))))
    rcases h with h | h | h <;> rw [h] <;> decide +kernel
  · have : mx 0 (mn w.1 11) = 0 ∨ mx 0 (mn w.1 11) = 1 ∨ mx 0 (mn w.1 11) = 2 ∨ mx 0 (mn w.1 11) = 3 ∨ mx 0 (mn w.1 11) = 4 ∨ mx 0 (mn w.1 11) = 5 ∨ mx 0 (mn w.1 11) = 6 ∨ mx 0 (mn w.1 11) = 7 ∨ mx 0 (mn w.1 11) = 8 ∨ mx 0 (mn w.1 11) = 9 ∨ mx 0 (mn w.1 11) = 10 ∨ mx 0 (mn w.1 11) = 11 := by
      unfold mx mn; split <;> split <;> omega
    rcases this with h | h | h | h | h | h | h | h | h | h | h | h <;> rw [h] <;> decide +kernel
theorem B_srcM (w : W5) {src : Int} (h : B src) : B (srcM w src) := by
  unfold srcM; split
  · exact ⟨by omega, by omega⟩
  · exact h
theorem fin_eq (w : W5) {op dst src off imm : Int} (k : Nat) (ho : B op) (hs : B src) (i0 : -2147483648 ≤ imm) (i1 : imm ≤ 2147483647) :
    insn_Make.j3 (k + 6) w.1 w.2.1 w.2.2.1 w.2.2.2.1 w.2.2.2.2 op dst src off imm = some (finish w op dst src off imm) := by
  obtain ⟨a, b, c, d, e⟩ := w
  rw [show k + 6 = (k + 5) + 1 by omega, insn_Make.j3]
  unfold finish
  by_cases hz : (a, b, c, d, e) = zeroV
  · simp only [zeroV, Prod.mk.injEq] at hz
    obtain ⟨rfl, rfl, rfl, rfl, rfl⟩ := hz
    simp [insn_Make.j4, zeroV]
  · rw [if_neg (by simp only [zeroV, Prod.mk.injEq] at hz; simpa [and_assoc] using hz), show k + 5 = (k + 1) + 4 by omega, kind_eq (k + 1) ho.1 ho.2 hs.1 hs.2 i0 i1, Option.bind_some]
    by_cases hw : kindV op src imm = (a, b, c, d, e)
    · rw [if_neg (by simp [hz, hw])]
      rw [hw]
      simp only [beq_self_eq_true, Bool.not_true, Bool.or_self]
      rw [show k + 1 + 4 = (k + 4) + 1 by omega, insn_Make.j4, if_neg (by decide), Of_eq k ho.1 ho.2 hs.1 hs.2 i0 i1, Option.bind_some]
      split <;> rfl
    · rw [if_pos (.inr hw)]
      have hn : ∀ v : W5, v ≠ (a, b, c, d, e) → (!(v.1 == a) || (!(v.2.1 == b) || (!(v.2.2.1 == c) || (!(v.2.2.2.1 == d) || (!(v.2.2.2.2 == e)))))) = true := by
        rintro ⟨a', b', c', d', e'⟩ h
        by_cases h1 : a' = a <;> by_cases h2 : b' = b <;> by_cases h3 : c' = c <;> by_cases h4 : d' = d <;> by_cases h5 : e' = e <;> simp_all
      rw [hn _ hw, show k + 1 + 4 = (k + 4) + 1 by omega, insn_Make.j4, if_pos rfl]
theorem Make_eq (w : W5) {op dst src off imm : Int} (k : Nat) (hs : B src) (i0 : -2147483648 ≤ imm) (i1 : imm ≤ 2147483647) :
    insn_Make.f (k + 20) w.1 w.2.1 w.2.2.1 w.2.2.2.1 w.2.2.2.2 op dst src off imm = some (finish w (opM w) dst (srcM w src) off (immM w imm)) := by
  have hf : ∀ (j : Nat) (o s i : Int), 6 ≤ j → B o → B s → -2147483648 ≤ i → i ≤ 2147483647 → insn_Make.j3 j w.1 w.2.1 w.2.2.1 w.2.2.2.1 w.2.2.2.2 o dst s off i = some (finish w o dst s off i) := by
    intro j o s i hj ho hs i0 i1
    rw [show j = (j - 6) + 6 by omega]; exact fin_eq w _ ho hs i0 i1
  have hB := B_opM w
  have hS := B_srcM w hs
  have hI : -2147483648 ≤ immM w imm ∧ immM w imm ≤ 2147483647 := by
    unfold immM; split
    · unfold wrap32; omega
    · exact ⟨i0, i1⟩
  have key : insn_Make.j0 (k + 20) (low w) w.1 w.2.1 w.2.2.1 w.2.2.2.1 w.2.2.2.2 op dst src off imm = some (finish w (opM w) dst (srcM w src) off (immM w imm)) := by
    rw [show k + 20 = (k + 19) + 1 by omega, insn_Make.j0]
    by_cases c1 : w.1 = 1
    · have e1 : srcM w src = src := by unfold srcM; rw [if_neg (by omega)]
      have e2 : immM w imm = imm := by unfold immM; rw [if_neg (by omega)]
      rw [if_pos c1, e1, e2]
      rw [e1] at hS
      unfold opM at hB ⊢
      rw [if_pos c1] at hB ⊢
      by_cases h : w.2.2.2.1 = true
      · simp only [if_pos h] at hB ⊢; exact hf _ _ _ _ (by omega) hB hS i0 i1
      · simp only [if_neg h] at hB ⊢; exact hf _ _ _ _ (by omega) hB hS i0 i1
    rw [if_neg c1]
    by_cases c6 : w.1 = 6
    · have e1 : srcM w src = src := by unfold srcM; rw [if_neg (by omega)]
      have e2 : immM w imm = imm := by unfold immM; rw [if_neg (by omega)]
      rw [if_pos c6, e1, e2]
      rw [e1] at hS
      unfold opM at hB ⊢
      rw [if_neg c1, if_pos c6] at hB ⊢
      by_cases h : w.2.2.2.1 = true
      · simp only [if_pos h] at hB ⊢; exact hf _ _ _ _ (by omega) hB hS i0 i1
      · simp only [if_neg h] at hB ⊢; exact hf _ _ _ _ (by omega) hB hS i0 i1
    rw [if_neg c6]
    by_cases c2 : w.1 = 2
    · have e1 : srcM w src = src := by unfold srcM; rw [if_neg (by omega)]
      have e2 : immM w imm = wrap32 (wrap64 (8 * (Go.bits .and .i64 w.2.2.1 15))) := by unfold immM; rw [if_pos c2]
      have e3 : opM w = 215 := by unfold opM; rw [if_neg c1, if_neg c6, if_pos c2]
      rw [e2] at hI
      rw [if_pos c2, e1, e2, e3]
      exact hf _ _ _ _ (by omega) ⟨by omega, by omega⟩ hs hI.1 hI.2
    rw [if_neg c2]
    have hi : immM w imm = imm := by unfold immM; rw [if_neg c2]
    have j1t : (w.1 = 3 ∨ w.1 = 4 ∨ w.1 = 5) → insn_Make.j1 (k + 19) true w.1 w.2.1 w.2.2.1 w.2.2.2.1 w.2.2.2.2 op dst src off imm = some (finish w (opM w) dst (srcM w src) off (immM w imm)) := by
      intro h
      have e1 : srcM w src = src := by unfold srcM; rw [if_neg (by omega)]
      have e3 : opM w = step w.2.2.1 (step w.2.2.1 (step w.2.2.1 (step w.2.2.1 (Go.bits .or .u8 96 (rdOf (0 : Int) ([0, 0, 0, 1, 3, 2] : List Int) w.1)) 0) 1) 2) 3 := by unfold opM; rw [if_neg c1, if_neg c6, if_neg c2, if_pos h]
      have sl : ∀ (j : Nat) (x o : Int), 0 ≤ x → x < 4 → insn_Make.l0 (j + 1) x w.1 w.2.1 w.2.2.1 w.2.2.2.1 w.2.2.2.2 o dst src off imm = insn_Make.l0 j (x + 1) w.1 w.2.1 w.2.2.1 w.2.2.2.1 w.2.2.2.2 (step w.2.2.1 o x) dst src off imm := by
        intro j x o x0 x1
        rw [insn_Make.l0, if_pos x1, if_pos x0, fitW (a := x + 1) (by omega) (by omega)]
        unfold step; split <;> rfl
      rw [e1, hi, e3]
      rw [e3] at hB
      rw [show k + 19 = (k + 18) + 1 by omega, insn_Make.j1, if_pos rfl, if_pos (by omega), if_pos (by omega), show k + 18 = (k + 17) + 1 by omega, sl _ 0 _ (by omega) (by omega), show k + 17 = (k + 16) + 1 by omega, sl _ _ _ (by omega) (by omega),
        show k + 16 = (k + 15) + 1 by omega, sl _ _ _ (by omega) (by omega), show k + 15 = (k + 14) + 1 by omega, sl _ _ _ (by omega) (by omega), show k + 14 = (k + 13) + 1 by omega, insn_Make.l0, if_neg (by omega)]
      exact hf _ _ _ _ (by omega) hB hs i0 i1
    have j1f : ¬ (w.1 = 3 ∨ w.1 = 4 ∨ w.1 = 5) → insn_Make.j1 (k + 19) false w.1 w.2.1 w.2.2.1 w.2.2.2.1 w.2.2.2.2 op dst src off imm = some (finish w (opM w) dst (srcM w src) off (immM w imm)) := by
      intro h
      have e3 : opM w = rdOf (0 : Int) ([0, 0, 0, 0, 0, 0, 0, 5, 133, 149, 24, 24] : List Int) (mx 0 (mn w.1 11)) := by unfold opM; rw [if_neg c1, if_neg c6, if_neg c2, if_neg h]
      have m0 : 0 ≤ mx 0 (mn w.1 11) ∧ mx 0 (mn w.1 11) < 12 := by unfold mx mn; split <;> split <;> omega
      rw [show k + 19 = (k + 18) + 1 by omega, insn_Make.j1, if_neg (by decide), if_pos m0.1, if_pos m0.2, hi]
      rw [e3] at hB ⊢
      unfold srcM at hS ⊢
      by_cases c10 : w.1 ≥ 10
      · rw [if_pos c10] at hS ⊢; rw [if_pos c10]; exact hf _ _ _ _ (by omega) hB hS i0 i1
      · rw [if_neg c10] at hS ⊢; rw [if_neg c10]; exact hf _ _ _ _ (by omega) hB hS i0 i1
    by_cases c3 : w.1 = 3
    · rw [if_pos c3, show (w.1 == 3) = true by simp [c3]]; exact j1t (.inl c3)
    rw [if_neg c3]
    by_cases c4 : w.1 = 4
    · rw [if_pos c4, show (w.1 == 4) = true by simp [c4]]; exact j1t (.inr (.inl c4))
    rw [if_neg c4]
    by_cases c5 : w.1 = 5
    · rw [show (w.1 == 5) = true by simp [c5]]; exact j1t (.inr (.inr c5))
    · rw [show (w.1 == 5) = false by simp [c5]]; exact j1f (by simp [c3, c4, c5])
  unfold insn_Make.f
  unfold low at key
  split <;> rename_i h
  · rw [if_pos h] at key; exact key
  · rw [if_neg h] at key; exact key
end Go.Proofs.YtondogoepcndiaaDoor.Pure

/- Chapter 03, plain: the places of a line's instruction; none, if it is no instruction's line. No conditions but the ones each theorem names. -/
namespace Go.Proofs.YtondogoepcndiaaDoor.Pure
open Go.RowKit Go.Proofs.YtondogoepcndiaaDoorW.PrintWords Go.Proofs.YtondogoepcndiaaDoorW.PrintLast Go.Proofs.YtondogoepcndiaaDoorW.PrintMore Go.Proofs.YtondogoepcndiaaDoor.P
set_option linter.unusedVariables false
set_option linter.unusedSimpArgs false

def Fl.R' (f : Fl) : Prop := (0 ≤ f.d ∧ f.d ≤ 10) ∧ (0 ≤ f.s ∧ f.s ≤ 10) ∧ (-32768 ≤ f.o ∧ f.o ≤ 32767) ∧ (-2147483648 ≤ f.n ∧ f.n ≤ 2147483647) ∧ (-2147483648 ≤ f.h ∧ f.h ≤ 2147483647)
theorem Fl.R'.ln {f : Fl} (h : f.R') : f.Ln := ⟨⟨h.1.1, by have := h.1.2; omega⟩, ⟨h.2.1.1, by have := h.2.1.2; omega⟩, h.2.2⟩
/-- A line is that of a row with fields. -/
def V (s : List UInt8) (w : W5) (f : Fl) : Prop := IsRow w ∧ f.R' ∧ Cn w f ∧ lineL w f = s
def insM (w : W5) (f : Fl) : Int × Int × Int × Int × Int × Int := finish w (opM w) f.d (srcM w f.s) f.o (immM w f.n)
def asX (m : Int × Int × Int × Int × Int × Int) : S37 := ⟨m.1, m.2.1, m.2.2.1, m.2.2.2.1, m.2.2.2.2.1⟩
def mkL (w : W5) (f : Fl) : List S37 := if (insM w f).2.2.2.2.2 = 0 then (if w.1 ≥ 10 then [asX (insM w f), ⟨0, 0, 0, 0, f.h⟩] else [asX (insM w f)]) else []
theorem finish_ok {w : W5} {op d s o i : Int} (h : (finish w op d s o i).2.2.2.2.2 = 0) : finish w op d s o i = (op, d, s, o, i, 0) ∧ w ≠ zeroV ∧ kindV op s i = w ∧ (ofV op d s o i).2.2.2.2.2 = 0 := by
  unfold finish at h ⊢
  by_cases c : w = zeroV ∨ kindV op s i ≠ w
  · rw [if_pos c] at h; exact absurd h (by decide)
  · rw [if_neg c] at h ⊢
    by_cases c2 : (ofV op d s o i).2.2.2.2.2 = 0
    · rw [if_pos c2]
      exact ⟨rfl, fun e => c (.inl e), Decidable.byContradiction fun e => c (.inr e), c2⟩
    · rw [if_neg c2] at h; exact absurd h c2
theorem immM_in {w : W5} {i : Int} (h0 : -2147483648 ≤ i) (h1 : i ≤ 2147483647) : -2147483648 ≤ immM w i ∧ immM w i ≤ 2147483647 := by
  unfold immM
  split
  · exact w32r _
  · exact ⟨h0, h1⟩
theorem fillL_congr {f g : Fl} : ∀ {p : List UInt8}, (∀ c ∈ p, fillB f c = fillB g c) → fillL f p = fillL g p := by
  intro p
  induction p with
  | nil => intro _; rfl
  | cons c p ih => intro h; rw [fillL_cons, fillL_cons, h c List.mem_cons_self, ih (fun x hx => h x (List.mem_cons_of_mem _ hx))]
theorem fillB_eq {f g : Fl} {c : UInt8} (h1 : c = 68 → f.d = g.d) (h2 : c = 83 → f.s = g.s) (h3 : c = 79 → f.o = g.o) (h4 : c = 78 → f.n = g.n) (h5 : c = 85 → f.n = g.n ∧ f.h = g.h) : fillB f c = fillB g c := by
  unfold fillB
  by_cases c1 : c = 68
  · rw [if_pos c1, if_pos c1, h1 c1]
  rw [if_neg c1, if_neg c1]
  by_cases c2 : c = 83
  · rw [if_pos c2, if_pos c2, h2 c2]
  rw [if_neg c2, if_neg c2]
  by_cases c3 : c = 79
  · rw [if_pos c3, if_pos c3, h3 c3]
  rw [if_neg c3, if_neg c3]
  by_cases c4 : c = 78
  · rw [if_pos c4, if_pos c4, h4 c4]
  rw [if_neg c4, if_neg c4]
  by_cases c5 : c = 85
  · rw [if_pos c5, if_pos c5]; unfold wideN; rw [(h5 c5).1, (h5 c5).2]
  rw [if_neg c5, if_neg c5]
theorem rows_uses {w : W5} (hw : IsRow w) : (68 ∈ patL w ↔ uses w 68 = true) ∧ (83 ∈ patL w ↔ uses w 83 = true) ∧ (79 ∈ patL w ↔ uses w 79 = true) ∧ (78 ∈ patL w ↔ uses w 78 = true) ∧ (85 ∈ patL w ↔ uses w 85 = true) :=
  of_decide_eq_true (isRow_all (p := fun w => decide ((68 ∈ patL w ↔ uses w 68 = true) ∧ (83 ∈ patL w ↔ uses w 83 = true) ∧ (79 ∈ patL w ↔ uses w 79 = true) ∧ (78 ∈ patL w ↔ uses w 78 = true) ∧ (85 ∈ patL w ↔ uses w 85 = true))) (by decide +kernel) hw)
theorem rows_made {w : W5} (hw : IsRow w) : (w.1 ≥ 10 → uses w 83 = false) ∧ (w.1 = 2 → uses w 78 = false ∧ uses w 85 = false) ∧ (uses w 68 = true → (fieldsV w).1 = true) ∧ (uses w 83 = true → (fieldsV w).2.2.1 = true) :=
  of_decide_eq_true (isRow_all (p := fun w => decide ((w.1 ≥ 10 → uses w 83 = false) ∧ (w.1 = 2 → uses w 78 = false ∧ uses w 85 = false) ∧ (uses w 68 = true → (fieldsV w).1 = true) ∧ (uses w 83 = true → (fieldsV w).2.2.1 = true))) (by decide +kernel) hw)
theorem line_congr {w : W5} (hw : IsRow w) {f g : Fl} (h1 : uses w 68 = true → f.d = g.d) (h2 : uses w 83 = true → f.s = g.s) (h3 : uses w 79 = true → f.o = g.o) (h4 : uses w 78 = true → f.n = g.n) (h5 : uses w 85 = true → f.n = g.n ∧ f.h = g.h) : lineL w f = lineL w g := by
  rw [← fill_pat hw f, ← fill_pat hw g]
  obtain ⟨u1, u2, u3, u4, u5⟩ := rows_uses hw
  exact fillL_congr fun c hc => fillB_eq (fun e => h1 (u1.1 (e ▸ hc))) (fun e => h2 (u2.1 (e ▸ hc))) (fun e => h3 (u3.1 (e ▸ hc))) (fun e => h4 (u4.1 (e ▸ hc))) (fun e => h5 (u5.1 (e ▸ hc)))
def madeF (w : W5) (f : Fl) : Fl := ⟨f.d, srcM w f.s, f.o, immM w f.n, f.h⟩
theorem made_in (w : W5) {f : Fl} (hf : f.In) : (madeF w f).In := ⟨hf.1, B_srcM w hf.2.1, hf.2.2.1, immM_in hf.2.2.2.1.1 hf.2.2.2.1.2, hf.2.2.2.2⟩
theorem line_same {w : W5} (hw : IsRow w) (f : Fl) : lineL w (madeF w f) = lineL w f := by
  obtain ⟨r1, r2, _⟩ := rows_made hw
  refine line_congr hw (fun _ => rfl) (fun h => ?_) (fun _ => rfl) (fun h => ?_) (fun h => ⟨?_, rfl⟩)
  · show srcM w f.s = f.s
    unfold srcM; rw [if_neg (fun e => by rw [r1 e] at h; cases h)]
  · show immM w f.n = f.n
    unfold immM; rw [if_neg (fun e => by rw [(r2 e).1] at h; cases h)]
  · show immM w f.n = f.n
    unfold immM; rw [if_neg (fun e => by rw [(r2 e).2] at h; cases h)]
theorem ins_row {w : W5} {f : Fl} (hf : f.In) (h : (insM w f).2.2.2.2.2 = 0) : IsRow w := by
  obtain ⟨_, hz, hk, _⟩ := finish_ok h
  rcases kind_row (i := immM w f.n) (B_opM w) (B_srcM w hf.2.1) with h' | h'
  · exact absurd (hk.symm.trans h') hz
  · rw [hk] at h'; exact h'
theorem make_ev (w : W5) {f : Fl} (hf : f.In) : Ev (fun k => insn_Make.f k w.1 w.2.1 w.2.2.1 w.2.2.2.1 w.2.2.2.2 0 f.d f.s f.o f.n) (insM w f) :=
  Ev.eq_ 20 fun k => Make_eq w k hf.2.1 hf.2.2.2.1.1 hf.2.2.2.1.2
theorem places_ev {w : W5} {f : Fl} (hf : f.In) (h : (insM w f).2.2.2.2.2 = 0) :
    Ev (fun k => insn_Places.f k (insM w f).1 (insM w f).2.1 (insM w f).2.2.1 (insM w f).2.2.2.1 (insM w f).2.2.2.2.1) (if w.1 = 10 then 2 else if w.1 = 11 then 2 else 1) := by
  obtain ⟨e, hz, hk, ho⟩ := finish_ok h
  have hx := Of_eq (op := opM w) (dst := f.d) (src := srcM w f.s) (off := f.o) (imm := immM w f.n)
  have hm := immM_in (w := w) hf.2.2.2.1.1 hf.2.2.2.1.2
  have hev : Ev (fun k => insn_Of.f k (opM w) f.d (srcM w f.s) f.o (immM w f.n)) (ofV (opM w) f.d (srcM w f.s) f.o (immM w f.n)) :=
    Ev.eq_ 4 fun k => hx k (B_opM w).1 (B_opM w).2 (B_srcM w hf.2.1).1 (B_srcM w hf.2.1).2 hm.1 hm.2
  have e1 : (ofV (opM w) f.d (srcM w f.s) f.o (immM w f.n)).1 = w.1 := by rw [(of_ok ho).1, hk]; rfl
  unfold insn_Places.f insM
  rw [e]
  refine Ev.bind_ hev ?_
  rw [if_pos ho, e1]
  by_cases h10 : w.1 = 10
  · rw [if_pos h10, if_pos h10]; exact Ev.pure
  · rw [if_neg h10, if_neg h10]
    by_cases h11 : w.1 = 11
    · rw [if_pos h11, if_pos h11]; exact Ev.pure
    · rw [if_neg h11, if_neg h11]; exact Ev.pure
theorem j0_bad (h : Int) (m : Int × Int × Int × Int × Int × Int) : Ev (fun k => asm_one.j0 k h true m.1 m.2.1 m.2.2.1 m.2.2.2.1 m.2.2.2.2.1) [] := by
  refine Ev.step_ (g := fun _ => some []) (fun K => ?_) Ev.pure
  rw [asm_one.j0, if_pos rfl]
/-- one, once the line is read. -/
theorem one_of {s : List UInt8} {w : W5} {f : Fl} (hf : f.In) (hw1 : ¬ w.1 = -1) (hr : Ev (fun k => asm_read.f k ⟨s.toArray⟩) (w.1, w.2.1, w.2.2.1, w.2.2.2.1, w.2.2.2.2, 0, f.d, f.s, f.o, f.n, f.h)) :
    Ev (fun k => asm_one.f k ⟨s.toArray⟩) (if (insM w f).2.2.2.2.2 = 0 ∧ lineL w f = s then mkL w f else []) := by
  unfold asm_one.f
  refine Ev.bind_ hr ?_
  refine Ev.eqn (fun K => if_neg hw1) ?_
  refine Ev.bind_ (make_ev w hf) ?_
  by_cases h0 : (insM w f).2.2.2.2.2 = 0
  · have hw := ins_row hf h0
    obtain ⟨e, hz, hk, ho⟩ := finish_ok h0
    have e' : insM w f = (opM w, f.d, srcM w f.s, f.o, immM w f.n, 0) := e
    have hl : Ev (fun k => asm_line.f k w.1 w.2.1 w.2.2.1 w.2.2.2.1 w.2.2.2.2 (insM w f).1 (insM w f).2.1 (insM w f).2.2.1 (insM w f).2.2.2.1 (insM w f).2.2.2.2.1 f.h) ⟨(lineL w f).toArray⟩ := by
      rw [← line_same hw f, e']
      exact Ev.eq_ 2 fun k => line_eq w (madeF w f) (opM w) (made_in w hf) hw k
    refine Ev.eqn (fun K => if_pos h0) (Ev.bind_ hl ?_)
    rw [mk_list, mk_list]
    by_cases hs : lineL w f = s
    · rw [if_pos ⟨h0, hs⟩, show (lineL w f != s) = false from bne_eq_false_iff_eq.2 hs]
      apply Ev.step_
      · intro K; rw [asm_one.j0, if_neg (by decide)]
      refine Ev.bind_ (places_ev hf h0) ?_
      unfold mkL
      rw [if_pos h0]
      have hrow := (rows_in hw).2.1
      by_cases h10 : w.1 ≥ 10
      · rw [if_pos h10]
        refine Ev.eqn (g := fun _ => some [asX (insM w f), ⟨0, 0, 0, 0, f.h⟩]) (fun K => ?_) Ev.pure
        rw [if_pos (by by_cases h : w.1 = 10
                       · rw [if_pos h]
                       · rw [if_neg h, if_pos (show w.1 = 11 by omega)])]
        rfl
      · rw [if_neg h10]
        refine Ev.eqn (g := fun _ => some [asX (insM w f)]) (fun K => ?_) Ev.pure
        rw [if_neg (by rw [if_neg (show ¬ w.1 = 10 by omega), if_neg (show ¬ w.1 = 11 by omega)]; decide)]
        rfl
    · rw [if_neg (fun h => hs h.2), show (lineL w f != s) = true from bne_iff_ne.2 hs]
      exact j0_bad f.h (insM w f)
  · rw [if_neg (fun h => h0 h.1)]
    exact Ev.eqn (fun K => if_neg h0) (j0_bad f.h (insM w f))
theorem one_V {s : List UInt8} {w : W5} {f : Fl} (h : V s w f) : Ev (fun k => asm_one.f k ⟨s.toArray⟩) (mkL w f) := by
  obtain ⟨hw, hR, hc, rfl⟩ := h
  have h1 := one_of hR.ln.in_ (by have := (rows_in hw).1; omega) (read_ev hw hR.ln hc)
  by_cases h0 : (insM w f).2.2.2.2.2 = 0
  · rw [if_pos ⟨h0, rfl⟩] at h1; exact h1
  · rw [if_neg (fun h => h0 h.1)] at h1
    unfold mkL; rw [if_neg h0]; exact h1
/-- The fields that a row names, the others nought. -/
def canF (w : W5) (f : Fl) : Fl := ⟨if uses w 68 = true then f.d else 0, if uses w 83 = true then f.s else 0, if uses w 79 = true then f.o else 0, if uses w 78 = true ∨ uses w 85 = true then f.n else 0, if uses w 85 = true then f.h else 0⟩
theorem can_cn (w : W5) (f : Fl) : Cn w (canF w f) := by
  refine ⟨fun h => ?_, fun h => ?_, fun h => ?_, fun h h2 => ?_, fun h => ?_⟩
  · show (if uses w 68 = true then f.d else 0) = 0
    rw [h]; rfl
  · show (if uses w 83 = true then f.s else 0) = 0
    rw [h]; rfl
  · show (if uses w 79 = true then f.o else 0) = 0
    rw [h]; rfl
  · show (if uses w 78 = true ∨ uses w 85 = true then f.n else 0) = 0
    rw [h, h2]; rfl
  · show (if uses w 85 = true then f.h else 0) = 0
    rw [h]; rfl
theorem can_line {w : W5} (hw : IsRow w) (f : Fl) : lineL w (canF w f) = lineL w f :=
  line_congr hw (fun h => if_pos h) (fun h => if_pos h) (fun h => if_pos h) (fun h => if_pos (.inl h)) (fun h => ⟨if_pos (.inr h), if_pos h⟩)
theorem can_R {w : W5} {f : Fl} (hf : f.In) (h : (insM w f).2.2.2.2.2 = 0) : (canF w f).R' := by
  have hw := ins_row hf h
  obtain ⟨_, _, hk, ho⟩ := finish_ok h
  obtain ⟨_, _, hb, _⟩ := of_ok ho
  rw [hk] at hb
  obtain ⟨r1, r2, r3, r4⟩ := rows_made hw
  obtain ⟨⟨d0, d1⟩, ⟨s0, s1⟩, ⟨o0, o1⟩, ⟨n0, n1⟩, ⟨h0, h1⟩⟩ := hf
  unfold canF
  refine ⟨?_, ?_, ?_, ?_, ?_⟩
  · dsimp only
    by_cases u : uses w 68 = true
    · rw [if_pos u]
      exact ⟨d0, Int.not_lt.1 fun h => hb (.inl ⟨r3 u, h⟩)⟩
    · rw [if_neg u]; omega
  · dsimp only
    by_cases u : uses w 83 = true
    · rw [if_pos u]
      have e : srcM w f.s = f.s := by unfold srcM; rw [if_neg (fun e => by rw [r1 e] at u; cases u)]
      rw [e] at hb
      exact ⟨s0, Int.not_lt.1 fun h => hb (.inr (.inr ⟨r4 u, h⟩))⟩
    · rw [if_neg u]; omega
  · dsimp only; split <;> omega
  · dsimp only; split <;> omega
  · dsimp only; split <;> omega
theorem one_no {s : List UInt8} (hs : s.length ≤ 100000) (h : ∀ w f, ¬ V s w f) : Ev (fun k => asm_one.f k ⟨s.toArray⟩) [] := by
  obtain ⟨x, hx, hr⟩ := read_total s hs
  by_cases hm : x.1 = -1
  · unfold asm_one.f
    exact Ev.bind_ hx (Ev.eqn (fun K => if_pos hm) Ev.pure)
  · rcases hr with hr | ⟨w, f, hf, rfl⟩
    · exact absurd hr hm
    · have h1 := one_of hf hm hx
      rw [if_neg (fun hh => h w (canF w f) ⟨ins_row hf hh.1, can_R hf hh.1, can_cn w f, (can_line (ins_row hf hh.1) f).trans hh.2⟩)] at h1
      exact h1
/-- What a line comes to. -/
def Told (s : List UInt8) (l : List S37) : Prop := (∃ w f, V s w f ∧ l = mkL w f) ∨ ((∀ w f, ¬ V s w f) ∧ l = [])
theorem told (s : List UInt8) : ∃ l, Told s l := by
  by_cases h : ∃ w f, V s w f
  · obtain ⟨w, f, hv⟩ := h
    exact ⟨_, .inl ⟨w, f, hv, rfl⟩⟩
  · exact ⟨[], .inr ⟨fun w f hv => h ⟨w, f, hv⟩, rfl⟩⟩
theorem one_ev {s : List UInt8} (hs : s.length ≤ 100000) {l : List S37} (h : Told s l) : Ev (fun k => asm_one.f k ⟨s.toArray⟩) l := by
  rcases h with ⟨w, f, hv, rfl⟩ | ⟨hn, rfl⟩
  · exact one_V hv
  · exact one_no hs hn
end Go.Proofs.YtondogoepcndiaaDoor.Pure

/- Chapter 03, plain: a text's code by the program. No conditions but the ones each theorem names. -/
namespace Go.Proofs.YtondogoepcndiaaDoor.Pure
open Go.RowKit Go.Proofs.YtondogoepcndiaaDoorW.PrintWords Go.Proofs.YtondogoepcndiaaDoorW.PrintLast Go.Proofs.YtondogoepcndiaaDoorW.PrintMore Go.Proofs.YtondogoepcndiaaDoor.P
set_option linter.unusedVariables false
set_option linter.unusedSimpArgs false

theorem Ev.one {α : Type} {f : Nat → Option α} {r s : α} (h1 : Ev f r) (h2 : Ev f s) : r = s := by
  obtain ⟨K, hK⟩ := h1
  obtain ⟨L, hL⟩ := h2
  have a := hK (max K L) (Nat.le_max_left _ _)
  have b := hL (max K L) (Nat.le_max_right _ _)
  exact Option.some.inj (a.symm.trans b)
theorem V.same {s : List UInt8} {w w' : W5} {f f' : Fl} (h : V s w f) (h' : V s w' f') : w = w' ∧ f = f' := by
  obtain ⟨hw, hR, hc, e⟩ := h
  obtain ⟨hw', hR', hc', e'⟩ := h'
  have r1 := read_ev hw hR.ln hc
  have r2 := read_ev hw' hR'.ln hc'
  rw [e] at r1
  rw [e'] at r2
  have := Ev.one r1 r2
  unfold ansR at this
  obtain ⟨a, b, c, d, g⟩ := w
  obtain ⟨a', b', c', d', g'⟩ := w'
  obtain ⟨x1, x2, x3, x4, x5⟩ := f
  obtain ⟨y1, y2, y3, y4, y5⟩ := f'
  simp only [Prod.mk.injEq] at this
  obtain ⟨rfl, rfl, rfl, rfl, rfl, _, rfl, rfl, rfl, rfl, rfl⟩ := this
  exact ⟨rfl, rfl⟩
theorem Told.same {s : List UInt8} {l l' : List S37} (h : Told s l) (h' : Told s l') : l = l' := by
  rcases h with ⟨w, f, hv, rfl⟩ | ⟨hn, rfl⟩
  · rcases h' with ⟨w', f', hv', rfl⟩ | ⟨hn', rfl⟩
    · obtain ⟨rfl, rfl⟩ := hv.same hv'; rfl
    · exact absurd hv (hn' w f)
  · rcases h' with ⟨w', f', hv', rfl⟩ | ⟨hn', rfl⟩
    · exact absurd hv' (hn w' f')
    · rfl
theorem mkL_len (w : W5) (f : Fl) : (mkL w f).length ≤ 2 := by
  unfold mkL
  repeat' split
  all_goals simp
theorem Told.len {s : List UInt8} {l : List S37} (h : Told s l) : l.length ≤ 2 := by
  rcases h with ⟨w, f, hv, rfl⟩ | ⟨hn, rfl⟩
  · exact mkL_len w f
  · simp
/-- A text's code, told by what each line comes to. -/
def parseF (one : List UInt8 → List S37) : Nat → List UInt8 → List S37 → Nat → List S37 × Int × Int
  | 0, _, code, n => (code, 0, 0)
  | k + 1, l, code, n =>
    if l = [] then (code, 0, 0)
    else if one (Lib.cut l [10]).1 = [] ∨ (Lib.cut l [10]).2.2 = false then ([], (n : Int), 5)
    else if (code ++ one (Lib.cut l [10]).1).length > 512 then ([], (n : Int), 3)
    else parseF one k (Lib.cut l [10]).2.1 (code ++ one (Lib.cut l [10]).1) (n + 1)
theorem cut_cases (l : List UInt8) : (10 ∉ l ∧ Lib.cut l [10] = (l, [], false)) ∨ (∃ A B, 10 ∉ A ∧ l = A ++ 10 :: B ∧ Lib.cut l [10] = (A, B, true)) := by
  by_cases h : 10 ∈ l
  · right
    have key : ∀ l : List UInt8, 10 ∈ l → ∃ A B, 10 ∉ A ∧ l = A ++ 10 :: B := by
      intro l
      induction l with
      | nil => intro h; simp at h
      | cons a l ih =>
        intro h
        by_cases ha : a = 10
        · exact ⟨[], l, by simp, by rw [ha]; rfl⟩
        · obtain ⟨A, B, h1, h2⟩ := ih ((List.mem_cons.1 h).resolve_left (fun e => ha e.symm))
          exact ⟨a :: A, B, fun hm => (List.mem_cons.1 hm).elim (fun e => ha e.symm) h1, by rw [h2]; rfl⟩
    obtain ⟨A, B, h1, h2⟩ := key l h
    refine ⟨A, B, h1, h2, ?_⟩
    rw [h2]
    exact cut_at (sep := [10]) (no_occ (c := 10) rfl h1)
  · left
    exact ⟨h, cut_none (c := 10) (by simp) h⟩
section
variable (one : List UInt8 → List S37) (hone : ∀ s, Told s (one s))
include hone
theorem parse_l0 : ∀ (m : Nat) (l : List UInt8) (code : List S37) (n : Nat), l.length ≤ m → l.length ≤ 65536 → code.length ≤ 512 → n + l.length ≤ 200000 → ∀ k, l.length < k →
    Ev (fun K => asm_Parse.l0 K ⟨l.toArray⟩ code (n : Int)) (parseF one k l code n) := by
  intro m
  induction m with
  | zero =>
    intro l code n hm hl hc hn k hk
    obtain rfl : l = [] := List.length_eq_zero_iff.1 (by omega)
    obtain ⟨k, rfl⟩ : ∃ j, k = j + 1 := ⟨k - 1, by simp at hk; omega⟩
    refine Ev.step_ (g := fun _ => some (code, 0, 0)) (fun K => ?_) Ev.pure
    rw [asm_Parse.l0, mk_list, if_pos rfl]
  | succ m ih =>
    intro l code n hm hl hc hn k hk
    obtain ⟨k, rfl⟩ : ∃ j, k = j + 1 := ⟨k - 1, by omega⟩
    by_cases he : l = []
    · subst he
      refine Ev.step_ (g := fun _ => some (code, 0, 0)) (fun K => ?_) Ev.pure
      rw [asm_Parse.l0, mk_list, if_pos rfl]
    have hlen : (Lib.cut l [10]).1.length ≤ l.length := by
      rcases cut_cases l with ⟨_, e⟩ | ⟨A, B, _, e2, e⟩
      · rw [e]; exact Nat.le_refl _
      · rw [e]; have := congrArg List.length e2; rw [List.length_append, List.length_cons] at this; dsimp only; omega
    have h1 := one_ev (by omega) (hone (Lib.cut l [10]).1)
    have hl2 := (hone (Lib.cut l [10]).1).len
    rw [parseF, if_neg he]
    apply Ev.step_
    · intro K
      rw [asm_Parse.l0, mk_list, if_neg he, show (⟨#[10]⟩ : ByteArray) = ⟨[10].toArray⟩ from rfl, Cut_eq _ _ (by omega), Option.bind_some]
    refine Ev.bind_ h1 ?_
    have hcl : stringslite_Clone.f (one (Lib.cut l [10]).1) = some (decide (one (Lib.cut l [10]).1 = [])) := rfl
    have bad : Ev (fun K => asm_Parse.j1 K code (n : Int) ⟨(Lib.cut l [10]).2.1.toArray⟩ (one (Lib.cut l [10]).1) true) ([], (n : Int), 5) := by
      refine Ev.step_ (g := fun _ => some ([], (n : Int), 5)) (fun K => ?_) Ev.pure
      rw [asm_Parse.j1, if_pos rfl]
    by_cases h0 : one (Lib.cut l [10]).1 = []
    · rw [if_pos (.inl h0)]
      refine Ev.eqn (fun K => ?_) bad
      rw [hcl, Option.bind_some, if_pos (decide_eq_true h0)]
    · by_cases h2 : (Lib.cut l [10]).2.2 = false
      · rw [if_pos (.inr h2)]
        refine Ev.eqn (fun K => ?_) bad
        rw [hcl, Option.bind_some, if_neg (by rw [decide_eq_false h0]; decide), h2]; rfl
      · rw [if_neg (fun h => h.elim h0 h2)]
        have h2t : (Lib.cut l [10]).2.2 = true := by
          cases hb : (Lib.cut l [10]).2.2 with
          | true => rfl
          | false => exact absurd hb h2
        apply Ev.eqn
        · intro K
          rw [hcl, Option.bind_some, if_neg (by rw [decide_eq_false h0]; decide), h2t]
        show Ev (fun K => asm_Parse.j1 K code (n : Int) ⟨(Lib.cut l [10]).2.1.toArray⟩ (one (Lib.cut l [10]).1) false) _
        rcases cut_cases l with ⟨_, e⟩ | ⟨A, B, _, e2, e⟩
        · rw [e] at h2; exact absurd rfl h2
        have hB : B.length < l.length := by have := congrArg List.length e2; rw [List.length_append, List.length_cons] at this; omega
        rw [e] at hl2 ⊢
        dsimp only at hl2 ⊢
        by_cases h5 : (code ++ one A).length > 512
        · rw [if_pos h5]
          refine Ev.step_ (g := fun _ => some ([], (n : Int), 3)) (fun K => ?_) Ev.pure
          rw [asm_Parse.j1, if_neg (by decide), if_pos (by omega), Option.bind_some, if_pos (by omega)]
        · rw [if_neg h5]
          refine Ev.step_ (fun K => ?_) (ih B (code ++ one A) (n + 1) (by omega) (by omega) (by omega) (by omega) k (by omega))
          rw [asm_Parse.j1, if_neg (by decide), if_pos (by omega), Option.bind_some, if_neg (by omega), wnext (by omega)]
def parseV (l : List UInt8) : List S37 × Int × Int := if l.length > 65536 then ([], 0, 3) else parseF one (l.length + 1) l [] 1
theorem parse_ev (l : List UInt8) : Ev (fun K => asm_Parse.f K ⟨l.toArray⟩) (parseV one l) := by
  unfold asm_Parse.f parseV
  rw [mk_size]
  by_cases h : l.length > 65536
  · rw [if_pos h]; exact Ev.eqn (fun K => if_pos (by omega)) Ev.pure
  · rw [if_neg h]
    exact Ev.eqn (fun K => if_neg (by omega)) (parse_l0 one hone l.length l [] 1 (Nat.le_refl _) (by omega) (by simp) (by omega) _ (by omega))
end
theorem one_ex : ∃ one : List UInt8 → List S37, ∀ s, Told s (one s) := Classical.skolem.1 told
end Go.Proofs.YtondogoepcndiaaDoor.Pure

/- Chapter 03, plain: what the program's Print answers. No conditions but the ones each theorem names. -/
namespace Go.Proofs.YtondogoepcndiaaDoor.Pure
open Go.RowKit Go.Proofs.YtondogoepcndiaaDoorW.PrintWords Go.Proofs.YtondogoepcndiaaDoorW.PrintLast Go.Proofs.YtondogoepcndiaaDoorW.PrintMore Go.Proofs.YtondogoepcndiaaDoor.P
set_option linter.unusedVariables false
set_option linter.unusedSimpArgs false

theorem line_ev {x : S37} (hx : Tyd x) (h : (ofX x).2.2.2.2.2 = 0) {i : Int} (h0 : -2147483648 ≤ i) (h1 : i ≤ 2147483647) :
    Ev (fun k => asm_line.f k (ofX x).1 (ofX x).2.1 (ofX x).2.2.1 (ofX x).2.2.2.1 (ofX x).2.2.2.2.1 x.f0 x.f1 x.f2 x.f3 x.f4 i) ⟨(lineL (wX x) (flX x i)).toArray⟩ :=
  Ev.eq_ 2 fun k => line_eq (wX x) (flX x i) x.f0 (flX_in hx h0 h1) (of_row hx h).1 k
/-- The end of a round: the line and its newline behind the text. -/
theorem put_ev {acc L : List UInt8} (M : Nat) (hM : acc.length + L.length + 1 ≤ M) {g : Nat → ByteArray → Option (ByteArray × Int)} {r : ByteArray × Int}
    (hg : Ev (fun k => g k ⟨(acc ++ L ++ [10]).toArray⟩) r) :
    Ev (fun k => if (⟨acc.toArray⟩ : ByteArray).size + (⟨L.toArray⟩ : ByteArray).size ≤ M then (if ((⟨acc.toArray⟩ : ByteArray) ++ (⟨L.toArray⟩ : ByteArray)).size + 1 ≤ M then g k (((⟨acc.toArray⟩ : ByteArray) ++ ⟨L.toArray⟩) ++ (⟨#[10]⟩ : ByteArray)) else none) else none) r := by
  refine Ev.eqn (fun K => ?_) hg
  rw [mk_size, mk_size, if_pos (by omega), mk_app, mk_size, List.length_append, if_pos (by omega), mk_app]
theorem printR_bad (x : S37) (t : List S37) (acc : List UInt8) (h : ¬ (ofX x).2.2.2.2.2 = 0) : printR (x :: t) acc = ([], (ofX x).2.2.2.2.2) := by
  rw [printR.eq_def]; simp only [h, if_false]
theorem printR_one (x : S37) (t : List S37) (acc : List UInt8) (h : (ofX x).2.2.2.2.2 = 0) (hw : ¬ (ofX x).1 ≥ 10) : printR (x :: t) acc = printR t (acc ++ lineL (wX x) (flX x 0) ++ [10]) := by
  rw [printR.eq_def]; simp only [h, hw, if_true, if_false]
theorem printR_end (x : S37) (acc : List UInt8) (h : (ofX x).2.2.2.2.2 = 0) (hw : (ofX x).1 ≥ 10) : printR [x] acc = ([], 23) := by
  rw [printR.eq_def]; simp only [h, hw, if_true]
theorem printR_two (x y : S37) (t : List S37) (acc : List UInt8) (h : (ofX x).2.2.2.2.2 = 0) (hw : (ofX x).1 ≥ 10) : printR (x :: y :: t) acc = if halfOk (ofX x).1 y then printR t (acc ++ lineL (wX x) (flX x y.f4) ++ [10]) else ([], 23) := by
  rw [printR.eq_def]; simp only [h, hw, if_true]
theorem print_l0 (l : List S37) (ht : ∀ x ∈ l, Tyd x) (hl : l.length ≤ 512) : ∀ (n i : Nat) (acc : List UInt8), l.length - i ≤ n → i ≤ l.length → acc.length ≤ 1300 * i →
    Ev (fun k => asm_Print.l0 k l ⟨acc.toArray⟩ (i : Int)) (asB (printR (l.drop i) acc)) := by
  intro n
  induction n with
  | zero =>
    intro i acc hn hi ha
    rw [List.drop_eq_nil_of_le (by omega)]
    refine Ev.step_ (g := fun _ => some (asB (acc, 0))) (fun K => ?_) Ev.pure
    rw [asm_Print.l0, if_neg (by omega)]; rfl
  | succ n ih =>
    intro i acc hn hi ha
    by_cases he : i = l.length
    · rw [List.drop_eq_nil_of_le (by omega)]
      refine Ev.step_ (g := fun _ => some (asB (acc, 0))) (fun K => ?_) Ev.pure
      rw [asm_Print.l0, if_neg (by omega)]; rfl
    have hlt : i < l.length := by omega
    have hx := ht _ (List.getElem_mem hlt)
    rw [dropC hlt]
    generalize hxe : l[i] = x at hx
    have hr : rd_T37 l (i : Int) = x := by rw [rd37 hlt, hxe]
    apply Ev.step_
    · intro K
      rw [asm_Print.l0, if_pos (by omega), if_pos (by omega), hr]
    refine Ev.bind_ (Of_ev hx) ?_
    by_cases h0 : (ofX x).2.2.2.2.2 = 0
    · have hrow := (of_row hx h0).1
      have hc := rows_in hrow
      have hc1 : (ofX x).1 ≤ 11 := hc.2.1
      by_cases hw : (ofX x).1 ≥ 10
      · have hj : ∀ r, Ev (fun k => asm_Print.j1 k l ⟨acc.toArray⟩ (i : Int) 0 true x.f0 x.f1 x.f2 x.f3 x.f4 (ofX x).1 (ofX x).2.1 (ofX x).2.2.1 (ofX x).2.2.2.1 (ofX x).2.2.2.2.1) r → Ev (fun k => if (ofX x).2.2.2.2.2 = 0 then (if (ofX x).1 = 10 then (asm_Print.j1 k l ⟨acc.toArray⟩ (i : Int) 0 true x.f0 x.f1 x.f2 x.f3 x.f4 (ofX x).1 (ofX x).2.1 (ofX x).2.2.1 (ofX x).2.2.2.1 (ofX x).2.2.2.2.1) else (asm_Print.j1 k l ⟨acc.toArray⟩ (i : Int) 0 ((ofX x).1 == 11) x.f0 x.f1 x.f2 x.f3 x.f4 (ofX x).1 (ofX x).2.1 (ofX x).2.2.1 (ofX x).2.2.2.1 (ofX x).2.2.2.2.1)) else (some ((⟨#[]⟩ : ByteArray), (ofX x).2.2.2.2.2))) r := by
          intro r hr
          refine Ev.eqn (fun K => ?_) hr
          rw [if_pos h0]
          by_cases h10 : (ofX x).1 = 10
          · rw [if_pos h10]
          · rw [if_neg h10, show ((ofX x).1 == 11) = true from beq_iff_eq.2 (by omega)]
        refine hj _ ?_
        by_cases hl1 : i + 1 = l.length
        · rw [List.drop_eq_nil_of_le (by omega), printR_end x acc h0 hw]
          refine Ev.step_ (g := fun _ => some (asB ([], 23))) (fun K => ?_) Ev.pure
          rw [asm_Print.j1, if_pos rfl, if_pos (by rw [wnext (by omega)]; omega)]; rfl
        · have hlt1 : i + 1 < l.length := by omega
          have hy := ht _ (List.getElem_mem hlt1)
          rw [dropC hlt1]
          generalize hye : l[i + 1] = y at hy
          rw [printR_two x y _ acc h0 hw]
          have hry : rd_T37 l ((i + 1 : Nat) : Int) = y := by rw [rd37 hlt1, hye]
          have hle := line_ev hx h0 (i := y.f4) hy.2.2.2.2.1 hy.2.2.2.2.2
          have hlen := lineL_len hrow (f := flX x y.f4) (flX_in hx hy.2.2.2.2.1 hy.2.2.2.2.2)
          have hfin : Ev (fun k => (asm_line.f k (ofX x).1 (ofX x).2.1 (ofX x).2.2.1 (ofX x).2.2.2.1 (ofX x).2.2.2.2.1 x.f0 x.f1 x.f2 x.f3 x.f4 y.f4).bind fun t176 => (if (⟨acc.toArray⟩ : ByteArray).size + t176.size ≤ 140737488355328 then (if ((⟨acc.toArray⟩ : ByteArray) ++ t176).size + 1 ≤ 140737488355328 then (asm_Print.l0 k l (((⟨acc.toArray⟩ : ByteArray) ++ t176) ++ (⟨#[10]⟩ : ByteArray)) ((i + 1 + 1 : Nat) : Int)) else (none)) else (none))) (asB (printR (l.drop (i + 1 + 1)) (acc ++ lineL (wX x) (flX x y.f4) ++ [10]))) := by
            refine Ev.bind_ hle (put_ev (g := fun k b => asm_Print.l0 k l b ((i + 1 + 1 : Nat) : Int)) _ (by omega) (ih (i + 1 + 1) _ (by omega) (by omega) ?_))
            simp only [List.length_append, List.length_cons, List.length_nil]; omega
          by_cases hh : halfOk (ofX x).1 y
          · have hh' := hh
            obtain ⟨q0, q1, q2, q3, q4⟩ := hh'
            rw [if_pos hh]
            refine Ev.step_ (fun K => ?_) hfin
            rw [asm_Print.j1, if_pos rfl, wnext (i := i) (by omega), if_neg (by omega), if_pos (by omega), if_pos (by omega), hry, wnext (by omega), q0, q1, q2, q3, if_neg (by decide)]
            by_cases h11 : (ofX x).1 = 11
            · rw [if_pos h11, if_pos (q4 h11)]
            · rw [if_neg h11]
          · rw [if_neg hh]
            refine Ev.step_ (g := fun _ => some (asB ([], 23))) (fun K => ?_) Ev.pure
            rw [asm_Print.j1, if_pos rfl, wnext (by omega), if_neg (by omega), if_pos (by omega), if_pos (by omega), hry]
            by_cases hz : y.f0 = 0 ∧ y.f1 = 0 ∧ y.f2 = 0 ∧ y.f3 = 0
            · obtain ⟨q0, q1, q2, q3⟩ := hz
              have h11 : (ofX x).1 = 11 ∧ ¬ y.f4 = 0 := by
                refine Decidable.byContradiction fun hn => hh ⟨q0, q1, q2, q3, fun e => Decidable.byContradiction fun h4 => hn ⟨e, h4⟩⟩
              rw [q0, q1, q2, q3, if_neg (by decide), if_pos h11.1, if_neg h11.2]; rfl
            · rw [if_pos (by
                simp only [Bool.or_eq_true, Bool.not_eq_true', beq_eq_false_iff_ne]
                refine Decidable.byContradiction fun hn => hz ?_
                simp only [not_or, Decidable.not_not, ne_eq] at hn
                exact ⟨hn.1, hn.2.1, hn.2.2.1, hn.2.2.2⟩)]; rfl
      · have hle := line_ev hx h0 (i := 0) (by omega) (by omega)
        have hlen := lineL_len hrow (f := flX x 0) (flX_in hx (by omega) (by omega))
        rw [printR_one x _ acc h0 hw]
        have hfin : Ev (fun k => (asm_line.f k (ofX x).1 (ofX x).2.1 (ofX x).2.2.1 (ofX x).2.2.2.1 (ofX x).2.2.2.2.1 x.f0 x.f1 x.f2 x.f3 x.f4 0).bind fun t176 => (if (⟨acc.toArray⟩ : ByteArray).size + t176.size ≤ 140737488355328 then (if ((⟨acc.toArray⟩ : ByteArray) ++ t176).size + 1 ≤ 140737488355328 then (asm_Print.l0 k l (((⟨acc.toArray⟩ : ByteArray) ++ t176) ++ (⟨#[10]⟩ : ByteArray)) ((i + 1 : Nat) : Int)) else (none)) else (none))) (asB (printR (l.drop (i + 1)) (acc ++ lineL (wX x) (flX x 0) ++ [10]))) := by
          refine Ev.bind_ hle (put_ev (g := fun k b => asm_Print.l0 k l b ((i + 1 : Nat) : Int)) _ (by omega) (ih (i + 1) _ (by omega) (by omega) ?_))
          simp only [List.length_append, List.length_cons, List.length_nil]; omega
        refine Ev.step_ (fun K => ?_) hfin
        rw [if_pos h0, if_neg (by omega), show ((ofX x).1 == 11) = false from beq_eq_false_iff_ne.2 (by omega), asm_Print.j1, if_neg (by decide), wnext (by omega)]
    · rw [printR_bad x _ acc h0]
      exact Ev.eqn (fun K => if_neg h0) Ev.pure
theorem print_ev (l : List S37) (ht : ∀ x ∈ l, Tyd x) : Ev (fun k => asm_Print.f k l) (asB (printV l)) := by
  unfold asm_Print.f printV
  by_cases h : l.length > 512
  · rw [if_pos h]
    exact Ev.eqn (fun K => if_pos (by omega)) Ev.pure
  · rw [if_neg h]
    exact Ev.eqn (fun K => if_neg (by omega)) (print_l0 l ht (by omega) l.length 0 [] (by omega) (by omega) (by simp))
end Go.Proofs.YtondogoepcndiaaDoor.Pure

/- Chapter 03, plain: texts and code, there and back. No conditions but the ones each theorem names. -/
namespace Go.Proofs.YtondogoepcndiaaDoor.Pure
open Go.RowKit Go.Proofs.YtondogoepcndiaaDoorW.PrintWords Go.Proofs.YtondogoepcndiaaDoorW.PrintLast Go.Proofs.YtondogoepcndiaaDoorW.PrintMore Go.Proofs.YtondogoepcndiaaDoor.P
set_option linter.unusedVariables false
set_option linter.unusedSimpArgs false

theorem made {op src imm : Int} (h0 : 0 ≤ op) (h1 : op ≤ 255) (s0 : 0 ≤ src) (hk : (kindV op src imm).1 ≠ 0) :
    opM (kindV op src imm) = op ∧ srcM (kindV op src imm) src = src ∧ immM (kindV op src imm) imm = imm := by
  by_cases c1 : op = 24
  · subst c1
    rw [kind_24] at hk ⊢
    by_cases e0 : src = 0
    · subst e0
      refine ⟨by decide +kernel, by decide +kernel, ?_⟩
      unfold immM; rw [if_neg (by decide +kernel)]
    by_cases e1 : src = 1
    · subst e1
      refine ⟨by decide +kernel, by decide +kernel, ?_⟩
      unfold immM; rw [if_neg (by decide +kernel)]
    · exact absurd (show (kindV 24 src 0).1 = 0 by unfold kindV; rw [if_neg (by decide), if_neg (by decide), if_pos (by decide), if_neg (by omega)]; rfl) hk
  by_cases c2 : op = 215
  · subst c2
    rw [kind_215] at hk ⊢
    by_cases e0 : imm = 16
    · subst e0; exact ⟨by decide +kernel, by unfold srcM; rw [if_neg (by decide +kernel)], by decide +kernel⟩
    by_cases e1 : imm = 32
    · subst e1; exact ⟨by decide +kernel, by unfold srcM; rw [if_neg (by decide +kernel)], by decide +kernel⟩
    by_cases e2 : imm = 64
    · subst e2; exact ⟨by decide +kernel, by unfold srcM; rw [if_neg (by decide +kernel)], by decide +kernel⟩
    · exact absurd (show (kindV 215 0 imm).1 = 0 by unfold kindV; simp [e0, e1, e2, zeroV]) hk
  rw [kind_any c1 c2] at hk ⊢
  have h : ∀ n : Fin 256, (n.val : Int) ≠ 24 → (n.val : Int) ≠ 215 → (kindV (n.val : Int) 0 0).1 ≠ 0 → opM (kindV (n.val : Int) 0 0) = (n.val : Int) ∧ (kindV (n.val : Int) 0 0).1 < 10 ∧ (kindV (n.val : Int) 0 0).1 ≠ 2 := by decide +kernel
  obtain ⟨n, rfl⟩ := Int.eq_ofNat_of_zero_le h0
  obtain ⟨a, b, c⟩ := h ⟨n, by omega⟩ c1 c2 hk
  dsimp only at a b c
  exact ⟨a, by unfold srcM; rw [if_neg (by omega)], by unfold immM; rw [if_neg c]⟩
theorem ne_zero {w : W5} (h : w.1 ≠ 0) : w ≠ zeroV := by rintro rfl; exact h rfl
/-- What is made of what an instruction is, is the instruction. -/
theorem once {op dst src off imm : Int} (h0 : 0 ≤ op) (h1 : op ≤ 255) (s0 : 0 ≤ src) (he : (ofV op dst src off imm).2.2.2.2.2 = 0) :
    finish (kindV op src imm) (opM (kindV op src imm)) dst (srcM (kindV op src imm) src) off (immM (kindV op src imm) imm) = (op, dst, src, off, imm, 0) := by
  obtain ⟨e, hk, -, -⟩ := of_ok he
  obtain ⟨m1, m2, m3⟩ := made h0 h1 s0 hk
  unfold finish
  rw [m1, m2, m3, if_neg (by rintro (h | h); exact ne_zero hk h; exact h rfl), if_pos he]
theorem rows_unused {w : W5} (hw : IsRow w) : (uses w 68 = false → (fieldsV w).1 = false) ∧ (uses w 83 = false → w.1 < 10 → (fieldsV w).2.2.1 = false) ∧ (uses w 79 = false → (fieldsV w).2.2.2.1 = false) ∧ (uses w 78 = false → uses w 85 = false → w.1 ≠ 2 → (fieldsV w).2.2.2.2 = false) ∧ (uses w 85 = true ↔ w.1 = 10) :=
  of_decide_eq_true (isRow_all (p := fun w => decide ((uses w 68 = false → (fieldsV w).1 = false) ∧ (uses w 83 = false → w.1 < 10 → (fieldsV w).2.2.1 = false) ∧ (uses w 79 = false → (fieldsV w).2.2.2.1 = false) ∧ (uses w 78 = false → uses w 85 = false → w.1 ≠ 2 → (fieldsV w).2.2.2.2 = false) ∧ (uses w 85 = true ↔ w.1 = 10))) (by decide +kernel) hw)
/-- The line of a right instruction is that of its row and its fields. -/
theorem back_one {x : S37} (hx : Tyd x) (h0 : (ofX x).2.2.2.2.2 = 0) {h : Int} (hh0 : -2147483648 ≤ h) (hh1 : h ≤ 2147483647) (hz : (ofX x).1 ≠ 10 → h = 0) :
    V (lineL (wX x) (flX x h)) (wX x) (canF (wX x) (flX x h)) ∧ mkL (wX x) (canF (wX x) (flX x h)) = if (ofX x).1 ≥ 10 then [x, ⟨0, 0, 0, 0, h⟩] else [x] := by
  obtain ⟨hw, ek⟩ := of_row hx h0
  have hin := flX_in hx hh0 hh1
  have hon := once hx.1.1 hx.1.2 hx.2.2.1.1 h0
  obtain ⟨_, hkz, hb1, hb2⟩ := of_ok h0
  rw [← ek] at hon hb1 hb2
  obtain ⟨r1, r2, r3, r4, r5⟩ := rows_unused hw
  have hc1 : (ofX x).1 = (wX x).1 := rfl
  have i0 : insM (wX x) (flX x h) = (x.f0, x.f1, x.f2, x.f3, x.f4, 0) := hon
  have e0 : (insM (wX x) (flX x h)).2.2.2.2.2 = 0 := by rw [i0]
  have nf : ∀ c, uses (wX x) c ≠ true → uses (wX x) c = false := fun c h => eq_false_of_ne_true h
  have eD : (canF (wX x) (flX x h)).d = x.f1 := by
    show (if uses (wX x) 68 = true then x.f1 else 0) = x.f1
    by_cases u : uses (wX x) 68 = true
    · rw [if_pos u]
    · rw [if_neg u]
      exact (Decidable.byContradiction fun hne => hb2 (.inl ⟨r1 (nf _ u), fun e => hne e.symm⟩))
  have eO : (canF (wX x) (flX x h)).o = x.f3 := by
    show (if uses (wX x) 79 = true then x.f3 else 0) = x.f3
    by_cases u : uses (wX x) 79 = true
    · rw [if_pos u]
    · rw [if_neg u]
      exact (Decidable.byContradiction fun hne => hb2 (.inr (.inr (.inl ⟨r3 (nf _ u), fun e => hne e.symm⟩))))
  have eS : srcM (wX x) (canF (wX x) (flX x h)).s = srcM (wX x) x.f2 := by
    by_cases h10 : (wX x).1 ≥ 10
    · unfold srcM; rw [if_pos h10, if_pos h10]
    · have : (canF (wX x) (flX x h)).s = x.f2 := by
        show (if uses (wX x) 83 = true then x.f2 else 0) = x.f2
        by_cases u : uses (wX x) 83 = true
        · rw [if_pos u]
        · rw [if_neg u]
          exact (Decidable.byContradiction fun hne => hb2 (.inr (.inl ⟨r2 (nf _ u) (by omega), fun e => hne e.symm, fun e => by omega⟩)))
      rw [this]
  have eN : immM (wX x) (canF (wX x) (flX x h)).n = immM (wX x) x.f4 := by
    by_cases h2 : (wX x).1 = 2
    · unfold immM; rw [if_pos h2, if_pos h2]
    · have : (canF (wX x) (flX x h)).n = x.f4 := by
        show (if uses (wX x) 78 = true ∨ uses (wX x) 85 = true then x.f4 else 0) = x.f4
        by_cases u : uses (wX x) 78 = true ∨ uses (wX x) 85 = true
        · rw [if_pos u]
        · rw [if_neg u]
          exact (Decidable.byContradiction fun hne => hb2 (.inr (.inr (.inr ⟨r4 (nf _ fun e => u (.inl e)) (nf _ fun e => u (.inr e)) h2, fun e => hne e.symm⟩))))
      rw [this]
  have eH : (canF (wX x) (flX x h)).h = h := by
    show (if uses (wX x) 85 = true then h else 0) = h
    by_cases u : uses (wX x) 85 = true
    · rw [if_pos u]
    · rw [if_neg u, hz (fun e => u (r5.2 e))]
  have i1 : insM (wX x) (canF (wX x) (flX x h)) = (x.f0, x.f1, x.f2, x.f3, x.f4, 0) := by
    unfold insM
    rw [eD, eO, eS, eN]; exact hon
  refine ⟨⟨hw, can_R hin e0, can_cn _ _, can_line hw _⟩, ?_⟩
  unfold mkL
  rw [i1, if_pos rfl, eH, hc1]; rfl
theorem line_no10 {w : W5} (hw : IsRow w) (f : Fl) : 10 ∉ lineL w f := by
  unfold lineL
  intro h
  rcases List.mem_append.1 h with h | h
  · exact (rows_word hw).2 h
  · split at h
    · simp at h
    · rcases List.mem_cons.1 h with h | h
      · exact absurd h (by decide)
      · obtain ⟨c, hc, hx⟩ := List.mem_flatMap.1 h
        have key : ∀ l : List (List UInt8), (∀ a ∈ l, ∀ c ∈ a, isLet c = true) → ∀ c ∈ joinL l, isLet c = true ∨ c = 44 ∨ c = 32 := by
          intro l
          induction l with
          | nil => intro _ c hc; simp [joinL] at hc
          | cons a l ih =>
            intro hl c hc
            cases l with
            | nil => exact .inl (hl a List.mem_cons_self c hc)
            | cons b l =>
              have hc : c ∈ a ++ (44 :: 32 :: joinL (b :: l)) := hc
              rcases List.mem_append.1 hc with h | h
              · exact .inl (hl a List.mem_cons_self c h)
              · rcases List.mem_cons.1 h with h | h
                · exact .inr (.inl h)
                rcases List.mem_cons.1 h with h | h
                · exact .inr (.inr h)
                · exact ih (fun a ha => hl a (List.mem_cons_of_mem _ ha)) c h
        rcases key _ (rows_args hw) c hc with h | rfl | rfl
        · rcases let_chars h hx with h | h | h | h
          · exact absurd h.1 (by decide)
          all_goals exact absurd h (by decide)
        · rw [fillB_plain f (by decide)] at hx; simp at hx
        · rw [fillB_plain f (by decide)] at hx; simp at hx
theorem s37_eta {y : S37} (h0 : y.f0 = 0) (h1 : y.f1 = 0) (h2 : y.f2 = 0) (h3 : y.f3 = 0) : y = ⟨0, 0, 0, 0, y.f4⟩ := by
  obtain ⟨a, b, c, d, e⟩ := y
  dsimp only at h0 h1 h2 h3
  subst h0 h1 h2 h3; rfl
/-- A line's places are told as the line. -/
theorem mk_print {A : List UInt8} {w : W5} {f : Fl} (hv : V A w f) (hne : mkL w f ≠ []) : (∀ (rest : List S37) (acc : List UInt8), printR (mkL w f ++ rest) acc = printR rest (acc ++ A ++ [10])) ∧ ∀ x ∈ mkL w f, Tyd x := by
  obtain ⟨hw, hR, hc, hA⟩ := hv
  have h0 : (insM w f).2.2.2.2.2 = 0 := Decidable.byContradiction fun h => hne (by unfold mkL; rw [if_neg h])
  obtain ⟨e, hz, hk, ho⟩ := finish_ok h0
  have e' : insM w f = (opM w, f.d, srcM w f.s, f.o, immM w f.n, 0) := e
  have hin := hR.ln.in_
  have hxe : asX (insM w f) = ⟨opM w, f.d, srcM w f.s, f.o, immM w f.n⟩ := by rw [e']; rfl
  have hx : Tyd ⟨opM w, f.d, srcM w f.s, f.o, immM w f.n⟩ := ⟨B_opM w, hin.1, B_srcM w hin.2.1, hin.2.2.1, immM_in hin.2.2.2.1.1 hin.2.2.2.1.2⟩
  have hof : (ofX ⟨opM w, f.d, srcM w f.s, f.o, immM w f.n⟩).2.2.2.2.2 = 0 := ho
  have hwx : wX ⟨opM w, f.d, srcM w f.s, f.o, immM w f.n⟩ = w := (of_row hx hof).2.trans hk
  have hc1 : (ofX ⟨opM w, f.d, srcM w f.s, f.o, immM w f.n⟩).1 = w.1 := by
    show (wX ⟨opM w, f.d, srcM w f.s, f.o, immM w f.n⟩).1 = w.1
    rw [hwx]
  have hl : lineL w (madeF w f) = A := (line_same hw f).trans hA
  have r5 := (rows_unused hw).2.2.2.2
  have hh : w.1 ≠ 10 → f.h = 0 := fun hne2 => hc.2.2.2.2 (eq_false_of_ne_true fun e => hne2 (r5.1 e))
  unfold mkL
  rw [if_pos h0, hxe]
  by_cases h10 : w.1 ≥ 10
  · rw [if_pos h10]
    refine ⟨fun rest acc => ?_, fun x hx2 => ?_⟩
    · rw [List.cons_append, List.cons_append, List.nil_append, printR_two _ _ rest acc hof (by rw [hc1]; exact h10), if_pos ⟨rfl, rfl, rfl, rfl, fun e => hh (by rw [hc1] at e; omega)⟩, hwx]
      show printR rest (acc ++ lineL w (madeF w f) ++ [10]) = _
      rw [hl]
    · rcases List.mem_cons.1 hx2 with rfl | hx2
      · exact hx
      · rw [List.mem_singleton.1 hx2]
        exact ⟨⟨by dsimp only; omega, by dsimp only; omega⟩, ⟨by dsimp only; omega, by dsimp only; omega⟩, ⟨by dsimp only; omega, by dsimp only; omega⟩, ⟨by dsimp only; omega, by dsimp only; omega⟩, hR.2.2.2.2⟩
  · rw [if_neg h10]
    refine ⟨fun rest acc => ?_, fun x hx2 => ?_⟩
    · rw [List.cons_append, List.nil_append, printR_one _ rest acc hof (by rw [hc1]; exact h10), hwx]
      have : flX ⟨opM w, f.d, srcM w f.s, f.o, immM w f.n⟩ 0 = madeF w f := by unfold flX madeF; rw [hh (by omega)]
      rw [this, hl]
    · rw [List.mem_singleton.1 hx2]; exact hx
section
variable (one : List UInt8 → List S37) (hone : ∀ s, Told s (one s))
include hone
/-- What is told is read as it was. -/
theorem print_parse : ∀ (n : Nat) (l : List S37) (acc t : List UInt8), l.length ≤ n → (∀ x ∈ l, Tyd x) → printR l acc = (t, 0) →
    ∃ u, t = acc ++ u ∧ ∀ (code : List S37) (k m : Nat), (code ++ l).length ≤ 512 → u.length < k → parseF one k u code m = (code ++ l, 0, 0) := by
  intro n
  have nil : ∀ (acc t : List UInt8), printR [] acc = (t, 0) → ∃ u, t = acc ++ u ∧ ∀ (code : List S37) (k m : Nat), (code ++ []).length ≤ 512 → u.length < k → parseF one k u code m = (code ++ [], 0, 0) := by
    intro acc t h
    have h := (Prod.mk.inj h).1
    refine ⟨[], by rw [List.append_nil]; exact h.symm, fun code k m _ hk => ?_⟩
    obtain ⟨k, rfl⟩ : ∃ j, k = j + 1 := ⟨k - 1, by omega⟩
    rw [parseF, if_pos rfl, List.append_nil]
  induction n with
  | zero =>
    intro l acc t hn _ h
    obtain rfl : l = [] := List.length_eq_zero_iff.1 (by omega)
    exact nil acc t h
  | succ n ih =>
    intro l acc t hn ht h
    cases l with
    | nil => exact nil acc t h
    | cons x l =>
      have hx := ht x List.mem_cons_self
      have go : ∀ (A u' : List UInt8) (xs rest : List S37), 10 ∉ A → Told A xs → xs ≠ [] → x :: l = xs ++ rest → t = acc ++ A ++ [10] ++ u' →
          (∀ (code : List S37) (k m : Nat), (code ++ rest).length ≤ 512 → u'.length < k → parseF one k u' code m = (code ++ rest, 0, 0)) →
          ∃ u, t = acc ++ u ∧ ∀ (code : List S37) (k m : Nat), (code ++ x :: l).length ≤ 512 → u.length < k → parseF one k u code m = (code ++ x :: l, 0, 0) := by
        intro A u' xs rest hA hT hne hl ht2 hrest
        refine ⟨A ++ 10 :: u', by rw [ht2]; simp, fun code k m hc hk => ?_⟩
        obtain ⟨k, rfl⟩ : ∃ j, k = j + 1 := ⟨k - 1, by omega⟩
        have e1 := hT.same (hone A)
        have hcut : Lib.cut (A ++ 10 :: u') [10] = (A, u', true) := cut_at (sep := [10]) (no_occ (c := 10) rfl hA)
        rw [hl] at hc ⊢
        rw [List.length_append, List.length_append] at hc
        rw [List.length_append, List.length_cons] at hk
        rw [parseF, if_neg (by simp), hcut]
        dsimp only
        rw [← e1, if_neg (fun h => h.elim hne (fun h => by cases h)), if_neg (by rw [List.length_append]; omega), hrest (code ++ xs) k (m + 1) (by rw [List.length_append, List.length_append]; omega) (by omega), List.append_assoc]
      by_cases h0 : (ofX x).2.2.2.2.2 = 0
      · have hrow := (of_row hx h0).1
        by_cases h10 : (ofX x).1 ≥ 10
        · cases l with
          | nil => rw [printR_end x acc h0 h10] at h; exact absurd (Prod.mk.inj h).2 (by decide)
          | cons y l =>
            rw [printR_two x y l acc h0 h10] at h
            split at h
            · rename_i hh
              have hy := ht y (by simp)
              obtain ⟨q0, q1, q2, q3, q4⟩ := hh
              obtain ⟨u', hu, hp⟩ := ih l _ t (by simp only [List.length_cons] at hn; omega) (fun z hz => ht z (by simp [hz])) h
              have hc11 := (rows_in hrow).2.1
              have hb := back_one hx h0 (h := y.f4) hy.2.2.2.2.1 hy.2.2.2.2.2 (fun e => q4 (by have : (wX x).1 = (ofX x).1 := rfl; omega))
              rw [if_pos h10, ← s37_eta q0 q1 q2 q3] at hb
              refine go _ u' [x, y] l (line_no10 hrow _) (.inl ⟨_, _, hb.1, hb.2.symm⟩) (by simp) rfl hu hp
            · exact absurd (Prod.mk.inj h).2 (by decide)
        · rw [printR_one x l acc h0 h10] at h
          obtain ⟨u', hu, hp⟩ := ih l _ t (by simp only [List.length_cons] at hn; omega) (fun z hz => ht z (List.mem_cons_of_mem _ hz)) h
          have hb := back_one hx h0 (h := 0) (by omega) (by omega) (fun _ => rfl)
          rw [if_neg h10] at hb
          exact go _ u' [x] l (line_no10 hrow _) (.inl ⟨_, _, hb.1, hb.2.symm⟩) (by simp) rfl hu hp
      · rw [printR_bad x l acc h0] at h
        exact absurd (Prod.mk.inj h).2 h0
/-- What is read is told as it was. -/
theorem parse_print : ∀ (m : Nat) (l : List UInt8) (code c : List S37) (n k : Nat), l.length ≤ m → l.length < k → code.length ≤ 512 → parseF one k l code n = (c, 0, 0) →
    c.length ≤ 512 ∧ ∃ l', c = code ++ l' ∧ (∀ acc, printR l' acc = (acc ++ l, 0)) ∧ ∀ x ∈ l', Tyd x := by
  intro m
  have nil : ∀ (code c : List S37) (n k : Nat), 0 < k → code.length ≤ 512 → parseF one k [] code n = (c, 0, 0) → c.length ≤ 512 ∧ ∃ l', c = code ++ l' ∧ (∀ acc, printR l' acc = (acc ++ [], 0)) ∧ ∀ x ∈ l', Tyd x := by
    intro code c n k hk hc h
    obtain ⟨k, rfl⟩ : ∃ j, k = j + 1 := ⟨k - 1, by omega⟩
    rw [parseF, if_pos rfl] at h
    have e := (Prod.mk.inj h).1
    subst e
    exact ⟨hc, [], (List.append_nil _).symm, fun acc => by rw [List.append_nil]; rfl, by simp⟩
  induction m with
  | zero =>
    intro l code c n k hm hk hc h
    obtain rfl : l = [] := List.length_eq_zero_iff.1 (by omega)
    exact nil code c n k (by omega) hc h
  | succ m ih =>
    intro l code c n k hm hk hc h
    by_cases he : l = []
    · subst he; exact nil code c n k (by omega) hc h
    obtain ⟨k, rfl⟩ : ∃ j, k = j + 1 := ⟨k - 1, by omega⟩
    rw [parseF, if_neg he] at h
    split at h
    · exact absurd (Prod.mk.inj (Prod.mk.inj h).2).2 (by decide)
    rename_i h1
    split at h
    · exact absurd (Prod.mk.inj (Prod.mk.inj h).2).2 (by decide)
    rename_i h2
    rcases cut_cases l with ⟨_, e⟩ | ⟨A, B, hA, e2, e⟩
    · exact absurd (.inr (by rw [e])) h1
    rw [e] at h h1 h2
    dsimp only at h h1 h2
    have hB : B.length < l.length := by have := congrArg List.length e2; rw [List.length_append, List.length_cons] at this; omega
    obtain ⟨hc5, l', e3, hp, hty⟩ := ih B (code ++ one A) c (n + 1) k (by omega) (by omega) (by omega) h
    have hne : one A ≠ [] := fun h => h1 (.inl h)
    obtain ⟨w, f, hv, e4⟩ : ∃ w f, V A w f ∧ one A = mkL w f := by
      rcases hone A with h | h
      · exact h
      · exact absurd h.2 hne
    have hmp := mk_print hv (by rw [← e4]; exact hne)
    rw [← e4] at hmp
    refine ⟨hc5, one A ++ l', by rw [e3, List.append_assoc], fun acc => ?_, fun x hx => ?_⟩
    · rw [hmp.1, hp, e2]; simp
    · rcases List.mem_append.1 hx with hx | hx
      · exact hmp.2 x hx
      · exact hty x hx
end
theorem parse_bad (one : List UInt8 → List S37) : ∀ (m : Nat) (l : List UInt8) (code : List S37) (n k : Nat), l.length ≤ m → l.length < k → (∃ c, parseF one k l code n = (c, 0, 0)) ∨ (∃ j e, parseF one k l code n = ([], j, e) ∧ (n : Int) ≤ j ∧ (e = 5 ∨ e = 3)) := by
  intro m
  induction m with
  | zero =>
    intro l code n k hm hk
    obtain rfl : l = [] := List.length_eq_zero_iff.1 (by omega)
    obtain ⟨k, rfl⟩ : ∃ j, k = j + 1 := ⟨k - 1, by omega⟩
    exact .inl ⟨code, by rw [parseF, if_pos rfl]⟩
  | succ m ih =>
    intro l code n k hm hk
    obtain ⟨k, rfl⟩ : ∃ j, k = j + 1 := ⟨k - 1, by omega⟩
    rw [parseF]
    by_cases he : l = []
    · rw [if_pos he]; exact .inl ⟨code, rfl⟩
    rw [if_neg he]
    split
    · exact .inr ⟨(n : Int), 5, rfl, by omega, .inl rfl⟩
    rename_i h1
    split
    · exact .inr ⟨(n : Int), 3, rfl, by omega, .inr rfl⟩
    rcases cut_cases l with ⟨_, e⟩ | ⟨A, B, hA, e2, e⟩
    · exact absurd (.inr (by rw [e])) h1
    rw [e]
    have hB : B.length < l.length := by have := congrArg List.length e2; rw [List.length_append, List.length_cons] at this; omega
    rcases ih B (code ++ one A) (n + 1) k (by omega) (by omega) with h | ⟨j, e, h, hj, he⟩
    · exact .inl h
    · exact .inr ⟨j, e, h, by omega, he⟩
end Go.Proofs.YtondogoepcndiaaDoor.Pure

/- Chapter 03, plain: a text that is read, another behind it. No conditions but the ones each theorem names. -/
namespace Go.Proofs.YtondogoepcndiaaDoor.Pure
open Go.RowKit Go.Proofs.YtondogoepcndiaaDoorW.PrintWords Go.Proofs.YtondogoepcndiaaDoorW.PrintLast Go.Proofs.YtondogoepcndiaaDoorW.PrintMore Go.Proofs.YtondogoepcndiaaDoor.P
set_option linter.unusedVariables false
set_option linter.unusedSimpArgs false

/-- A text that is read, another behind it. -/
theorem behind (one : List UInt8 → List S37) (t : List UInt8) : ∀ (m : Nat) (s : List UInt8) (c0 b : List S37) (n k k' : Nat), s.length ≤ m → s.length < k → s.length + t.length < k' → parseF one k s c0 n = (b, 0, 0) →
    ∃ k2, t.length < k2 ∧ parseF one k' (s ++ t) c0 n = parseF one k2 t b (n + s.count 10) := by
  intro m
  have nil : ∀ (c0 b : List S37) (n k k' : Nat), 0 < k → t.length < k' → parseF one k [] c0 n = (b, 0, 0) → ∃ k2, t.length < k2 ∧ parseF one k' ([] ++ t) c0 n = parseF one k2 t b (n + ([] : List UInt8).count 10) := by
    intro c0 b n k k' hk hk' h
    obtain ⟨k, rfl⟩ : ∃ j, k = j + 1 := ⟨k - 1, by omega⟩
    rw [parseF, if_pos rfl] at h
    have e := (Prod.mk.inj h).1
    subst e
    exact ⟨k', hk', rfl⟩
  induction m with
  | zero =>
    intro s c0 b n k k' hm hk hk' h
    obtain rfl : s = [] := List.length_eq_zero_iff.1 (by omega)
    exact nil c0 b n k k' (by omega) (by simpa using hk') h
  | succ m ih =>
    intro s c0 b n k k' hm hk hk' h
    by_cases he : s = []
    · subst he; exact nil c0 b n k k' (by omega) (by simpa using hk') h
    obtain ⟨k, rfl⟩ : ∃ j, k = j + 1 := ⟨k - 1, by omega⟩
    obtain ⟨k', rfl⟩ : ∃ j, k' = j + 1 := ⟨k' - 1, by omega⟩
    rw [parseF, if_neg he] at h
    split at h
    · exact absurd (Prod.mk.inj (Prod.mk.inj h).2).2 (by decide)
    rename_i h1
    split at h
    · exact absurd (Prod.mk.inj (Prod.mk.inj h).2).2 (by decide)
    rename_i h5
    rcases cut_cases s with ⟨_, e⟩ | ⟨A, B, hA, e2, e⟩
    · exact absurd (.inr (by rw [e])) h1
    rw [e] at h h1 h5
    dsimp only at h h1 h5
    have hl := congrArg List.length e2
    rw [List.length_append, List.length_cons] at hl
    obtain ⟨k2, hk2, h2⟩ := ih B (c0 ++ one A) b (n + 1) k k' (by omega) (by omega) (by omega) h
    refine ⟨k2, hk2, ?_⟩
    have e3 : s ++ t = A ++ 10 :: (B ++ t) := by rw [e2, List.append_assoc]; rfl
    have hcut : Lib.cut (A ++ 10 :: (B ++ t)) [10] = (A, B ++ t, true) := cut_at (sep := [10]) (no_occ (c := 10) rfl hA)
    have hcnt : s.count 10 = B.count 10 + 1 := by
      rw [e2, List.count_append, List.count_eq_zero_of_not_mem hA, List.count_cons_self]; omega
    rw [e3, parseF, if_neg (by simp), hcut]
    dsimp only
    rw [if_neg h1, if_neg h5, h2, hcnt, show n + 1 + B.count 10 = n + (B.count 10 + 1) by omega]
end Go.Proofs.YtondogoepcndiaaDoor.Pure

/- Chapter 03, plain: the rows that each law asks first. No conditions but the ones each theorem names. -/
namespace Go.Proofs.YtondogoepcndiaaDoor.Pure
open Go.RowKit Go.Proofs.YtondogoepcndiaaDoorW.PrintWords Go.Proofs.YtondogoepcndiaaDoorW.PrintLast Go.Proofs.YtondogoepcndiaaDoorW.PrintMore Go.Proofs.YtondogoepcndiaaDoor.P
set_option linter.unusedVariables false
set_option linter.unusedSimpArgs false
set_option maxRecDepth 100000

theorem wakes_100 : stockadelaw03_wakes.f 100 = some true := by kernel_rfl
theorem wakes_ev : Ev (fun k => stockadelaw03_wakes.f k) true := Ev.of (fun k => stockadelaw03_wakes.mono k) wakes_100
theorem wakes_some : Ev (fun k => (stockadelaw03_wakes.f k).bind fun t => some t) true := Ev.bind_ wakes_ev Ev.pure
end Go.Proofs.YtondogoepcndiaaDoor.Pure

/- Chapter 03, plain: are two codes the same? No conditions but the ones each theorem names. -/
namespace Go.Proofs.YtondogoepcndiaaDoor.Pure
open Go.RowKit Go.Proofs.YtondogoepcndiaaDoorW.PrintWords Go.Proofs.YtondogoepcndiaaDoorW.PrintLast Go.Proofs.YtondogoepcndiaaDoorW.PrintMore Go.Proofs.YtondogoepcndiaaDoor.P
set_option linter.unusedVariables false
set_option linter.unusedSimpArgs false

theorem tyd_of {x : S37} (h : Opening.ok37 x) : Tyd x := Opening.ok37_open h
theorem eqB (x y : S37) : ((!(x.f0 == y.f0) || (!(x.f1 == y.f1) || (!(x.f2 == y.f2) || (!(x.f3 == y.f3) || (!(x.f4 == y.f4)))))) = true) ↔ ¬ x = y := by
  obtain ⟨a, b, c, d, e⟩ := x
  obtain ⟨a', b', c', d', e'⟩ := y
  simp only [Bool.or_eq_true, Bool.not_eq_true', beq_eq_false_iff_ne, S37.mk.injEq, ne_eq]
  constructor
  · rintro h ⟨rfl, rfl, rfl, rfl, rfl⟩
    simp at h
  · intro h
    refine Decidable.byContradiction fun hn => h ?_
    simp only [not_or, Decidable.not_not] at hn
    exact ⟨hn.1, hn.2.1, hn.2.2.1, hn.2.2.2.1, hn.2.2.2.2⟩
instance : DecidableEq S37 := fun x y => if h : x.f0 = y.f0 ∧ x.f1 = y.f1 ∧ x.f2 = y.f2 ∧ x.f3 = y.f3 ∧ x.f4 = y.f4 then isTrue (by
    obtain ⟨a, b, c, d, e⟩ := x
    obtain ⟨a', b', c', d', e'⟩ := y
    obtain ⟨rfl, rfl, rfl, rfl, rfl⟩ := h
    rfl) else isFalse (fun e => h (by rw [e]; exact ⟨rfl, rfl, rfl, rfl, rfl⟩))
theorem same_l0 (a b : List S37) (hab : a.length = b.length) (ha : a.length ≤ 100000) : ∀ (n i : Nat), a.length - i ≤ n → i ≤ a.length →
    Ev (fun k => stockadelaw03_same.l0 k a b (i : Int)) (decide (a.drop i = b.drop i)) := by
  intro n
  induction n with
  | zero =>
    intro i hn hi
    rw [(show a.drop i = [] from List.drop_eq_nil_of_le (by omega)), (show b.drop i = [] from List.drop_eq_nil_of_le (by omega))]
    refine Ev.step_ (g := fun _ => some true) (fun K => ?_) Ev.pure
    rw [stockadelaw03_same.l0, if_neg (by omega)]
  | succ n ih =>
    intro i hn hi
    by_cases he : i = a.length
    · rw [(show a.drop i = [] from List.drop_eq_nil_of_le (by omega)), (show b.drop i = [] from List.drop_eq_nil_of_le (by omega))]
      refine Ev.step_ (g := fun _ => some true) (fun K => ?_) Ev.pure
      rw [stockadelaw03_same.l0, if_neg (by omega)]
    have h1 : i < a.length := by omega
    have h2 : i < b.length := by omega
    rw [dropC h1, dropC h2]
    by_cases e : a[i] = b[i]
    · have := ih (i + 1) (by omega) (by omega)
      have e2 : decide (a[i] :: a.drop (i + 1) = b[i] :: b.drop (i + 1)) = decide (a.drop (i + 1) = b.drop (i + 1)) := decide_eq_decide.2 ⟨fun h => (List.cons.inj h).2, fun h => by rw [e, h]⟩
      rw [e2]
      refine Ev.step_ (fun K => ?_) this
      rw [stockadelaw03_same.l0, if_pos (by omega), if_pos (by omega), if_pos (by omega), rd37 h1, rd37 h2, if_neg (fun h => (eqB _ _).1 h e), wnext (by omega)]
    · have e2 : decide (a[i] :: a.drop (i + 1) = b[i] :: b.drop (i + 1)) = false := decide_eq_false fun h => e (List.cons.inj h).1
      rw [e2]
      refine Ev.step_ (g := fun _ => some false) (fun K => ?_) Ev.pure
      rw [stockadelaw03_same.l0, if_pos (by omega), if_pos (by omega), if_pos (by omega), rd37 h1, rd37 h2, if_pos ((eqB _ _).2 e)]
theorem same_ev (a b : List S37) (ha : a.length ≤ 100000) : Ev (fun k => stockadelaw03_same.f k a b) (decide (a = b)) := by
  unfold stockadelaw03_same.f
  by_cases h : a.length = b.length
  · have := same_l0 a b h ha a.length 0 (by omega) (by omega)
    simp only [List.drop_zero] at this
    exact Ev.eqn (fun K => if_pos (by omega)) this
  · rw [show decide (a = b) = false from decide_eq_false (fun e => h (by rw [e]))]
    exact Ev.eqn (fun K => if_neg (by omega)) Ev.pure
end Go.Proofs.YtondogoepcndiaaDoor.Pure

/- The law AsmKnown holds: the chapter's rows are computed by the kernel; as many places as there may be, and one more, by the laws of the text. -/
namespace Go.Proofs.YtondogoepcndiaaDoor.Pure
open Go.RowKit Go.Proofs.YtondogoepcndiaaDoorW.PrintWords Go.Proofs.YtondogoepcndiaaDoorW.PrintLast Go.Proofs.YtondogoepcndiaaDoorW.PrintMore
set_option linter.unusedVariables false
set_option maxRecDepth 100000

def exitX : P.S37 := ⟨149, 0, 0, 0, 0⟩
def exitL : List UInt8 := [101, 120, 105, 116]
def exits (n : Nat) : List UInt8 := (List.replicate n (exitL ++ [10])).flatten
theorem exit_of : (ofX exitX).2.2.2.2.2 = 0 ∧ ¬ (ofX exitX).1 ≥ 10 ∧ lineL (wX exitX) (flX exitX 0) = exitL := by
  refine ⟨by kernel_rfl, ?_, by kernel_rfl⟩
  have : (ofX exitX).1 = 9 := by kernel_rfl
  omega
theorem print_exits : ∀ (n : Nat) (acc : List UInt8), printR (List.replicate n exitX) acc = (acc ++ exits n, 0) := by
  intro n
  induction n with
  | zero => intro acc; simp [exits]; rfl
  | succ n ih =>
    intro acc
    rw [List.replicate_succ, printR_one exitX _ acc exit_of.1 exit_of.2.1, exit_of.2.2, ih]
    unfold exits
    rw [List.replicate_succ, List.flatten_cons]
    simp [List.append_assoc]
theorem exits_len : ∀ n : Nat, (exits n).length = 5 * n := by
  intro n
  induction n with
  | zero => rfl
  | succ n ih =>
    unfold exits at ih ⊢
    rw [List.replicate_succ, List.flatten_cons, List.length_append, ih]; simp [exitL]; omega
theorem exits_cnt : ∀ n : Nat, (exits n).count 10 = n := by
  intro n
  induction n with
  | zero => rfl
  | succ n ih =>
    unfold exits at ih ⊢
    rw [List.replicate_succ, List.flatten_cons, List.count_append, ih, show List.count (10 : UInt8) (exitL ++ [10]) = 1 from by decide]; omega
theorem exit_tyd : Tyd exitX := ⟨⟨by decide, by decide⟩, ⟨by decide, by decide⟩, ⟨by decide, by decide⟩, ⟨by decide, by decide⟩, ⟨by decide, by decide⟩⟩
section
variable (one : List UInt8 → List P.S37) (hone : ∀ s, Told s (one s))
include hone
theorem one_exit : one exitL = [exitX] := by
  have hb := back_one exit_tyd exit_of.1 (h := 0) (by omega) (by omega) (fun _ => rfl)
  rw [if_neg exit_of.2.1, exit_of.2.2] at hb
  exact (hone exitL).same (.inl ⟨_, _, hb.1, hb.2.symm⟩)
theorem parse_exits : parseV one (exits 512) = (List.replicate 512 exitX, 0, 0) := by
  obtain ⟨u, hu, hq⟩ := print_parse one hone 512 (List.replicate 512 exitX) [] (exits 512) (by simp) (fun x hx => by rw [(List.mem_replicate.1 hx).2]; exact exit_tyd) (by rw [print_exits]; rfl)
  rw [List.nil_append] at hu
  subst hu
  unfold parseV
  rw [if_neg (by rw [exits_len]; omega)]
  exact hq [] _ 1 (by simp) (by omega)
theorem parse_more : parseV one (exits 512 ++ (exitL ++ [10])) = ([], 513, 3) := by
  have h0 := parse_exits one hone
  unfold parseV at h0 ⊢
  rw [if_neg (by rw [exits_len]; omega)] at h0
  rw [if_neg (by rw [List.length_append, exits_len]; simp [exitL])]
  obtain ⟨k2, hk2, h⟩ := behind one (exitL ++ [10]) (exits 512).length (exits 512) [] _ 1 ((exits 512).length + 1) ((exits 512 ++ (exitL ++ [10])).length + 1) (Nat.le_refl _) (by omega) (by simp only [List.length_append]; omega) h0
  rw [h, exits_cnt]
  obtain ⟨k, rfl⟩ : ∃ j, k2 = j + 1 := ⟨k2 - 1, by omega⟩
  have hcut : Lib.cut (exitL ++ [10]) [10] = (exitL, [], true) := cut_at (sep := [10]) (B := []) (no_occ (c := 10) rfl (by decide))
  rw [parseF, if_neg (by decide), hcut]
  dsimp only
  rw [one_exit one hone, if_neg (by simp), if_pos (by rw [List.length_append, List.length_replicate]; simp)]
  rfl
theorem known_l2 : ∀ (n i : Nat) (x : List P.S37), x.length = 512 → 512 - i ≤ n → i ≤ 512 → x.take i = List.replicate i exitX → Ev (fun k => P.stockadelaw03_AsmKnown.l2 k x (i : Int)) true := by
  intro n
  have fin : ∀ x : List P.S37, x = List.replicate 512 exitX → Ev (fun k => P.stockadelaw03_AsmKnown.l2 k x ((512 : Nat) : Int)) true := by
    rintro x rfl
    have ht : ∀ z ∈ List.replicate 512 exitX, Tyd z := fun z hz => by rw [(List.mem_replicate.1 hz).2]; exact exit_tyd
    have hz : Tyd (⟨0, 0, 0, 0, 0⟩ : P.S37) := ⟨⟨by decide, by decide⟩, ⟨by decide, by decide⟩, ⟨by decide, by decide⟩, ⟨by decide, by decide⟩, ⟨by decide, by decide⟩⟩
    have e1 : printV (List.replicate 512 exitX) = (exits 512, 0) := by
      unfold printV; rw [if_neg (by rw [List.length_replicate]; omega), print_exits]; rfl
    have e2 : printV (List.replicate 512 exitX ++ [⟨0, 0, 0, 0, 0⟩]) = ([], 3) := by
      unfold printV; rw [if_pos (by rw [List.length_append, List.length_replicate]; simp)]
    have p1 := print_ev (List.replicate 512 exitX) ht
    have p2 := print_ev (List.replicate 512 exitX ++ [⟨0, 0, 0, 0, 0⟩]) (fun z hz2 => by
      rcases List.mem_append.1 hz2 with h | h
      · exact ht z h
      · rw [List.mem_singleton.1 h]; exact hz)
    rw [e1] at p1
    rw [e2] at p2
    have q1 := parse_ev one hone (exits 512)
    rw [parse_exits one hone] at q1
    have q2 := parse_ev one hone (exits 512 ++ (exitL ++ [10]))
    rw [parse_more one hone] at q2
    have q3 : Ev (fun k => P.asm_Parse.f k (strOfNums (List.replicate 65537 0))) ([], 0, 3) := by
      unfold P.asm_Parse.f
      exact Ev.eqn (fun K => if_pos (by rw [strOfNums_size, List.length_replicate]; decide)) Ev.pure
    have p3 : Ev (fun k => P.asm_Print.f k [(⟨24, 0, 0, 0, 0⟩ : P.S37)]) (⟨#[]⟩, 23) := Ev.of (fun k => P.asm_Print.mono _ k) (show P.asm_Print.f 40 [(⟨24, 0, 0, 0, 0⟩ : P.S37)] = some (⟨#[]⟩, 23) by kernel_rfl)
    have p4 : Ev (fun k => P.asm_Print.f k [(⟨24, 0, 1, 0, 0⟩ : P.S37), (⟨0, 0, 0, 0, 1⟩ : P.S37)]) (⟨#[]⟩, 23) := Ev.of (fun k => P.asm_Print.mono _ k) (show P.asm_Print.f 40 [(⟨24, 0, 1, 0, 0⟩ : P.S37), (⟨0, 0, 0, 0, 1⟩ : P.S37)] = some (⟨#[]⟩, 23) by kernel_rfl)
    apply Ev.step_
    · intro K
      rw [P.stockadelaw03_AsmKnown.l2, if_neg (by rw [List.length_replicate]; omega)]
    refine Ev.bind_ p1 ?_
    apply Ev.eqn
    · intro K; rw [if_pos (by rw [List.length_replicate]; omega)]
    refine Ev.bind_ p2 (Ev.bind_ q1 ?_)
    apply Ev.eqn
    · intro K; rw [if_pos (show (asB (exits 512, 0)).1.size + 5 ≤ 9223372036854775807 by show (⟨(exits 512).toArray⟩ : ByteArray).size + 5 ≤ _; rw [mk_size, exits_len]; omega), show (asB (exits 512, 0)).1 ++ (⟨#[101, 120, 105, 116, 10]⟩ : ByteArray) = ⟨(exits 512 ++ (exitL ++ [10])).toArray⟩ from mk_app _ _]
    refine Ev.bind_ q2 ?_
    refine Ev.eqn (fun K => if_pos (by decide)) (Ev.bind_ q3 (Ev.bind_ p3 (Ev.bind_ p4 ?_)))
    refine Ev.eqn (fun K => if_pos rfl) (Ev.eqn (fun K => if_pos rfl) (Ev.eqn (fun K => if_pos (by rw [List.length_replicate]; rfl)) (Ev.eqn (fun K => if_pos rfl) (Ev.eqn (fun K => if_pos rfl) (Ev.eqn (fun K => if_pos rfl) (Ev.eqn (fun K => if_pos rfl) (Ev.eqn (fun K => if_pos rfl) (Ev.eqn (fun K => if_pos rfl) (Ev.eqn (fun K => if_pos rfl) (Ev.eqn (fun K => if_pos rfl) wakes_some))))))))))
  induction n with
  | zero =>
    intro i x hx hn hi ht
    obtain rfl : i = 512 := by omega
    exact fin x (by rw [← ht, List.take_of_length_le (by omega)])
  | succ n ih =>
    intro i x hx hn hi ht
    by_cases he : i = 512
    · subst he; exact fin x (by rw [← ht, List.take_of_length_le (by omega)])
    · refine Ev.step_ (fun K => ?_) (ih (i + 1) (x.set i exitX) (by rw [List.length_set]; exact hx) (by omega) (by omega) ?_)
      · rw [P.stockadelaw03_AsmKnown.l2, if_pos (by omega), if_pos (by omega), Int.toNat_natCast, wnext (by omega)]; rfl
      · rw [List.take_succ_eq_append_getElem (by rw [List.length_set]; omega), List.take_set_of_le (by omega), ht, List.getElem_set_self, List.replicate_succ']
end
/-! the rows: by the kernel, one by one -/
def rowB (x : P.S41) : Bool := match P.asm_Print.f 60 x.f0, P.asm_Parse.f 60 x.f1 with
  | some p, some q => decide (p.1.toList = x.f1.toList ∧ p.2 = 0 ∧ q.1 = x.f0 ∧ q.2.1 = 0 ∧ q.2.2 = 0)
  | _, _ => false
def txtB (x : ByteArray) : Bool := match P.asm_Parse.f 60 x with
  | some q => decide (q.2.2 = 5 ∧ q.2.1 = 1 ∧ (q.1.length : Int) = 0)
  | none => false
theorem rowB_ok {x : P.S41} (h : rowB x = true) : ∃ p q, Ev (fun k => P.asm_Print.f k x.f0) p ∧ Ev (fun k => P.asm_Parse.f k x.f1) q ∧ p.1.toList = x.f1.toList ∧ p.2 = 0 ∧ q.1 = x.f0 ∧ q.2.1 = 0 ∧ q.2.2 = 0 := by
  unfold rowB at h
  cases h1 : P.asm_Print.f 60 x.f0 with
  | none => rw [h1] at h; cases h
  | some p =>
    cases h2 : P.asm_Parse.f 60 x.f1 with
    | none => rw [h1, h2] at h; cases h
    | some q =>
      rw [h1, h2] at h
      exact ⟨p, q, Ev.of (fun k => P.asm_Print.mono _ k) h1, Ev.of (fun k => P.asm_Parse.mono _ k) h2, of_decide_eq_true h⟩
theorem txtB_ok {x : ByteArray} (h : txtB x = true) : ∃ q, Ev (fun k => P.asm_Parse.f k x) q ∧ q.2.2 = 5 ∧ q.2.1 = 1 ∧ (q.1.length : Int) = 0 := by
  unfold txtB at h
  cases h2 : P.asm_Parse.f 60 x with
  | none => rw [h2] at h; cases h
  | some q =>
    rw [h2] at h
    exact ⟨q, Ev.of (fun k => P.asm_Parse.mono _ k) h2, of_decide_eq_true h⟩
theorem rd41 {l : List P.S41} {i : Nat} (h : i < l.length) : P.rd_T41 l (i : Int) = l[i] := by
  unfold P.rd_T41
  rw [Int.toNat_natCast, List.getD_eq_getElem?_getD, List.getElem?_eq_getElem h]; rfl
theorem rdB {l : List ByteArray} {i : Nat} (h : i < l.length) : rdOf ByteArray.empty l (i : Int) = l[i] := by
  unfold rdOf
  rw [Int.toNat_natCast, List.getD_eq_getElem?_getD, List.getElem?_eq_getElem h]; rfl
theorem known_l1 (hend : Ev (fun k => P.stockadelaw03_AsmKnown.l2 k (List.replicate 512 P.z37) 0) true) (L : List ByteArray) (hL : L.all txtB = true) (hl : L.length ≤ 100) :
    ∀ n i : Nat, L.length - i ≤ n → i ≤ L.length → Ev (fun k => P.stockadelaw03_AsmKnown.l1 k L (L.length : Int) (i : Int)) true := by
  intro n
  have fin : Ev (fun k => P.stockadelaw03_AsmKnown.l1 k L (L.length : Int) (L.length : Int)) true := by
    refine Ev.step_ (fun K => ?_) hend
    rw [P.stockadelaw03_AsmKnown.l1, if_neg (by omega), if_pos (by decide)]
  induction n with
  | zero =>
    intro i hn hi
    obtain rfl : i = L.length := by omega
    exact fin
  | succ n ih =>
    intro i hn hi
    by_cases he : i = L.length
    · subst he; exact fin
    have hlt : i < L.length := by omega
    obtain ⟨q, hq, e1, e2, e3⟩ := txtB_ok (List.all_eq_true.1 hL L[i] (List.getElem_mem hlt))
    apply Ev.step_
    · intro K
      rw [P.stockadelaw03_AsmKnown.l1, if_pos (by omega), if_pos (by omega), if_pos (by omega), rdB hlt]
    refine Ev.bind_ hq ?_
    refine Ev.eqn (fun K => ?_) (ih (i + 1) (by omega) (by omega))
    rw [if_pos e1, if_pos e2, if_pos e3, wnext (by omega)]
theorem known_l0 (hend : ∀ L : List ByteArray, L.all txtB = true → L.length ≤ 100 → Ev (fun k => P.stockadelaw03_AsmKnown.l1 k L (L.length : Int) 0) true) (L : List P.S41) (hL : L.all rowB = true) (hl : L.length ≤ 100) (hc : ∀ x ∈ L, x.f0.length ≤ 100) :
    ∀ n i : Nat, L.length - i ≤ n → i ≤ L.length → Ev (fun k => P.stockadelaw03_AsmKnown.l0 k L (L.length : Int) (i : Int)) true := by
  intro n
  have fin : Ev (fun k => P.stockadelaw03_AsmKnown.l0 k L (L.length : Int) (L.length : Int)) true := by
    apply Ev.step_
    · intro K
      rw [P.stockadelaw03_AsmKnown.l0, if_neg (by omega), Option.bind_some]
    exact hend _ (by decide +kernel) (by decide)
  induction n with
  | zero =>
    intro i hn hi
    obtain rfl : i = L.length := by omega
    exact fin
  | succ n ih =>
    intro i hn hi
    by_cases he : i = L.length
    · subst he; exact fin
    have hlt : i < L.length := by omega
    obtain ⟨p, q, hp, hq, e1, e2, e3, e4, e5⟩ := rowB_ok (List.all_eq_true.1 hL L[i] (List.getElem_mem hlt))
    have hcl := hc L[i] (List.getElem_mem hlt)
    apply Ev.step_
    · intro K
      rw [P.stockadelaw03_AsmKnown.l0, if_pos (by omega), if_pos (by omega), if_pos (by omega), rd41 hlt]
    refine Ev.bind_ hp (Ev.bind_ hq ?_)
    refine Ev.eqn (fun K => if_pos e1) (Ev.eqn (fun K => if_pos e2) (Ev.bind_ (same_ev _ _ (by rw [e3]; omega)) ?_))
    refine Ev.eqn (fun K => ?_) (ih (i + 1) (by omega) (by omega))
    rw [if_pos (by rw [e3]; simp), if_pos e4, if_pos e5, wnext (by omega)]
theorem AsmKnown : ∃ k, P.stockadelaw03_AsmKnown.f k = some true := by
  obtain ⟨one, hone⟩ := one_ex
  refine Ev.rounds (g := fun k => P.stockadelaw03_AsmKnown.f k) ?_
  have h2 := known_l2 one hone 512 0 (List.replicate 512 P.z37) (by rw [List.length_replicate]) (by omega) (by omega) (by simp)
  have h1 := fun (L : List ByteArray) (hL : L.all txtB = true) (hl : L.length ≤ 100) => known_l1 h2 L hL hl L.length 0 (by omega) (by omega)
  unfold P.stockadelaw03_AsmKnown.f
  apply Ev.eqn
  · intro K
    rw [Option.bind_some]
  exact known_l0 h1 _ (by decide +kernel) (by decide) (by decide) _ 0 (Nat.le_refl _) (by omega)
end Go.Proofs.YtondogoepcndiaaDoor.Pure
