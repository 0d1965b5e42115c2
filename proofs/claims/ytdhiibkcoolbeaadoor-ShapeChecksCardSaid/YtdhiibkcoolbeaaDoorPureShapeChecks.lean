/- Chapter 04: the law ShapeChecks: what is wrong with an image, and where, is the document's; the image stays as it was. -/
-- in one
import Derived.Test.YtdhiibkcoolbeaaDoorPx17
import Derived.Test.YtdhiibkcoolbeaaDoorPx4
import Derived.Test.YtdhiibkcoolbeaaDoorPx19
import Derived.Test.YtdhiibkcoolbeaaDoorPx16
import Derived.Test.YtdhiibkcoolbeaaDoorPxXXSt
import Derived.Test.YtdhiibkcoolbeaaDoorPxXXCk
import Derived.Test.YtdhiibkcoolbeaaDoorSt
import Derived.Test.YtdhiibkcoolbeaaDoorOs
import Derived.Test.YtdhiibkcoolbeaaDoorPx7
import Derived.Test.YtdhiibkcoolbeaaDoorPx8
import Derived.Test.YtdhiibkcoolbeaaDoorPx5
import Derived.Test.YtdhiibkcoolbeaaDoorPx6
import Derived.Laws.BitsAllLaws
import Derived.Test.YtdhiibkcoolbeaaDoorPx13
import Derived.Test.YtdhiibkcoolbeaaDoorPx12
import Derived.Test.YtdhiibkcoolbeaaDoorPx11
/- Chapter 04: twin hands back the same image. -/
namespace Go.Proofs.YtdhiibkcoolbeaaDoor.Pure
open Go.RowKit Go.Proofs.YtdhiibkcoolbeaaDoorW.PrintWords Go.Proofs.YtdhiibkcoolbeaaDoorW.PrintLast Go.Proofs.YtdhiibkcoolbeaaDoorW.PrintMore Go.Proofs.YtdhiibkcoolbeaaDoor.P
set_option linter.unusedVariables false
set_option linter.unusedSimpArgs false

theorem twin_eq {M : List S52} {C : List S40} (h1 : M.length * 32 ≤ 140737488351232) (h2 : C.length * 12 ≤ 140737488351232) : stockadelaw04_twin.f M C = some (M, C) := by
  unfold stockadelaw04_twin.f
  rw [if_pos (by simp; omega), Option.bind_some, Option.bind_some, if_pos (by simp; omega), Option.bind_some, if_pos (by omega), if_pos (by simp; omega), if_pos (by simp; omega), Option.bind_some, Option.bind_some, if_pos (by simp; omega), Option.bind_some, if_pos (by omega), if_pos (by simp; omega)]
  simp
end Go.Proofs.YtdhiibkcoolbeaaDoor.Pure

/- Chapter 02: what kind, fields and Of come to, in plain terms. -/
namespace Go.Proofs.YtdhiibkcoolbeaaDoor.Pure
open Go.RowKit Go.Proofs.YtdhiibkcoolbeaaDoorW.PrintWords Go.Proofs.YtdhiibkcoolbeaaDoorW.PrintLast Go.Proofs.YtdhiibkcoolbeaaDoorW.PrintMore Go.Proofs.YtdhiibkcoolbeaaDoor.P
set_option linter.unusedVariables false
set_option linter.unusedSimpArgs false

abbrev W5 := Int × Int × Int × Bool × Bool
def zeroV : W5 := (0, 0, 0, false, false)
def condB (n : Int) : Bool := decide (1 ≤ n ∧ n ≤ 7 ∨ 10 ≤ n ∧ n ≤ 13)
def jumpV (op : Int) : W5 :=
  if condB (op / 16) = true then (6, op / 16, 0, decide (op % 8 = 5), decide (op / 8 % 2 = 1))
  else if op = 5 then (7, 0, 0, false, false) else if op = 133 then (8, 0, 0, false, false) else if op = 149 then (9, 0, 0, false, false) else zeroV
def sizeV (n : Int) : Int := if n = 0 then 4 else if n = 1 then 2 else if n = 2 then 1 else 8
def classV (n : Int) : Int := if n = 1 then 3 else if n = 2 then 5 else 4
/-- What an instruction is by its Op (and the Src of 18, the Imm of d7). -/
def kindV (op src imm : Int) : W5 :=
  if op % 8 = 4 ∨ op % 8 = 7 then
    if op = 215 ∧ (imm = 16 ∨ imm = 32 ∨ imm = 64) then (2, 0, imm / 8, false, false)
    else if op / 16 ≤ 12 ∧ ¬ (op / 16 = 8 ∧ op / 8 % 2 = 1) then (1, op / 16, 0, decide (op % 8 = 7), decide (op / 8 % 2 = 1)) else zeroV
  else if op % 8 = 5 ∨ op % 8 = 6 then jumpV op
  else if op % 8 = 0 then (if op = 24 ∧ src < 2 then (10 + src, 0, 0, false, false) else zeroV)
  else if op / 32 = 3 then (classV (op % 4), 0, sizeV (op / 8 % 4), false, false) else zeroV
theorem b7 {op : Int} (h0 : 0 ≤ op) (h1 : op ≤ 255) : Go.bits .and .u8 op 7 = op % 8 := u8_and7 op h0 (by omega)
theorem b3 {op : Int} (h0 : 0 ≤ op) (h1 : op ≤ 255) : Go.bits .and .u8 op 3 = op % 4 := by
  rw [u8_and op 3 h0 (by omega) (by omega) (by omega), show ((3 : Int)).toNat = 3 from rfl, nat_mask2]; omega
theorem b8 {op : Int} (h0 : 0 ≤ op) (h1 : op ≤ 255) : (Go.bits .and .u8 op 8 != 0) = decide (op / 8 % 2 = 1) := by
  obtain ⟨n, rfl⟩ := Int.eq_ofNat_of_zero_le h0
  have h : ∀ n : Fin 256, (Go.bits .and .u8 (n.val : Int) 8 != 0) = decide ((n.val : Int) / 8 % 2 = 1) := by decide +kernel
  exact h ⟨n, by omega⟩
theorem fitW {a : Int} (h0 : -9223372036854775808 ≤ a) (h1 : a ≤ 9223372036854775807) : wrap64 a = a := by unfold wrap64; omega
theorem cond_eq (n : Int) : insn_cond.f n = some (condB n) := by
  unfold insn_cond.f condB
  repeat' split
  all_goals (simp only [Option.some.injEq, decide_eq_decide]; first | omega | (simp only [eq_comm (a := true), eq_comm (a := false), decide_eq_true_eq, decide_eq_false_iff_not]; omega))
theorem jump_eq {op : Int} (h0 : 0 ≤ op) (h1 : op ≤ 255) : insn_jump.f op (op / 16) (decide (op / 8 % 2 = 1)) = some (jumpV op) := by
  have e : (op % 8 == 5) = decide (op % 8 = 5) := rfl
  simp only [insn_jump.f, cond_eq, Option.bind_some, b7 h0 h1, jumpV, e, zeroV]
  repeat' split
  all_goals simp_all
theorem kind_eq {op dst src off imm : Int} (k : Nat) (h0 : 0 ≤ op) (h1 : op ≤ 255) (s0 : 0 ≤ src) (s1 : src ≤ 255) (i0 : -2147483648 ≤ imm) (i1 : imm ≤ 2147483647) :
    insn_kind.f (k + 4) op dst src off imm = some (kindV op src imm) := by
  have e8 : Go.bits .and .u8 (op / 8) 3 = op / 8 % 4 := b3 (by omega) (by omega)
  have ew : wrap64 (op / 16) = op / 16 := fitW (by omega) (by omega)
  have ei : wrap64 imm = imm := fitW (by omega) (by omega)
  have es : wrap64 src = src := fitW (by omega) (by omega)
  have es' : wrap64 (10 + src) = 10 + src := fitW (by omega) (by omega)
  have rdg : ∀ n : Int, 0 ≤ n → n < 4 → rd gl0 n = sizeV n := by
    intro n n0 n4
    have : n = 0 ∨ n = 1 ∨ n = 2 ∨ n = 3 := by omega
    rcases this with rfl | rfl | rfl | rfl <;> decide +kernel
  have rdc : op % 4 = 1 ∨ op % 4 = 2 ∨ op % 4 = 3 → rdOf (0 : Int) ([0, 3, 5, 4] : List Int) (op % 4) = classV (op % 4) := by
    rintro (h | h | h) <;> rw [h] <;> decide +kernel
  have hm : op % 8 = 0 ∨ op % 8 = 1 ∨ op % 8 = 2 ∨ op % 8 = 3 ∨ op % 8 = 4 ∨ op % 8 = 5 ∨ op % 8 = 6 ∨ op % 8 = 7 := by omega
  unfold insn_kind.f insn_kind.j0 insn_kind.j1 insn_kind.j2 insn_kind.j3
  simp only [b7 h0 h1, b3 h0 h1, b8 h0 h1, e8, ew, ei, es, es', jump_eq h0 h1]
  rcases hm with h | h | h | h | h | h | h | h
  · simp [h, kindV, zeroV]
    repeat' split
    all_goals simp_all
  · simp [h, kindV, zeroV, rdc (by omega), rdg (op / 8 % 4) (by omega) (by omega), show 0 ≤ op % 4 by omega, show op % 4 < 4 by omega, show 0 ≤ op / 8 % 4 by omega, show op / 8 % 4 < 4 by omega]
    split <;> rfl
  · simp [h, kindV, zeroV, rdc (by omega), rdg (op / 8 % 4) (by omega) (by omega), show 0 ≤ op % 4 by omega, show op % 4 < 4 by omega, show 0 ≤ op / 8 % 4 by omega, show op / 8 % 4 < 4 by omega]
    split <;> rfl
  · simp [h, kindV, zeroV, rdc (by omega), rdg (op / 8 % 4) (by omega) (by omega), show 0 ≤ op % 4 by omega, show op % 4 < 4 by omega, show 0 ≤ op / 8 % 4 by omega, show op / 8 % 4 < 4 by omega]
    split <;> rfl
  · simp [h, kindV, zeroV]
    repeat' split
    all_goals (try simp_all)
    all_goals (try omega)
  · simp [h, kindV, zeroV]
  · simp [h, kindV, zeroV]
  · have t1 : wrap64 (Int.tdiv 16 8) = 2 := by decide +kernel
    have t2 : wrap64 (Int.tdiv 32 8) = 4 := by decide +kernel
    have t3 : wrap64 (Int.tdiv 64 8) = 8 := by decide +kernel
    simp [h, kindV, zeroV]
    repeat' split
    all_goals (try simp_all)
    all_goals (try omega)
def fieldsV (w : W5) : Bool × Bool × Bool × Bool × Bool :=
  if w.1 = 1 then (true, true, w.2.2.2.2, false, !w.2.2.2.2 && decide (w.2.1 ≠ 8))
  else if w.1 = 2 ∨ w.1 = 10 ∨ w.1 = 11 then (true, true, false, false, true)
  else if w.1 = 3 then (true, true, true, true, false)
  else if w.1 = 4 then (true, false, true, true, false)
  else if w.1 = 5 then (true, false, false, true, true)
  else if w.1 = 6 then (true, false, w.2.2.2.2, true, !w.2.2.2.2)
  else if w.1 = 7 then (false, false, false, true, false)
  else if w.1 = 8 then (false, false, false, false, true)
  else (false, false, false, false, false)
theorem fields_eq (k : Nat) (a b c : Int) (d e : Bool) : insn_fields.f (k + 1) a b c d e = some (fieldsV (a, b, c, d, e)) := by
  unfold insn_fields.f insn_fields.j0 fieldsV
  by_cases c1 : a = 1
  · subst c1; cases e <;> simp [bne]
    by_cases c : b = 8 <;> simp [c]
  by_cases c2 : a = 2
  · subst c2; simp
  by_cases c3 : a = 10
  · subst c3; simp
  by_cases c4 : a = 11
  · subst c4; simp
  by_cases c5 : a = 3
  · subst c5; simp
  by_cases c6 : a = 4
  · subst c6; simp
  by_cases c7 : a = 5
  · subst c7; simp
  by_cases c8 : a = 6
  · subst c8; simp
  by_cases c9 : a = 7
  · subst c9; simp
  by_cases c10 : a = 8
  · subst c10; simp
  simp [c1, c2, c3, c4, c5, c6, c7, c8, c9, c10]
/-- What Of answers. -/
def ofV (op dst src off imm : Int) : Int × Int × Int × Bool × Bool × Int :=
  let w := kindV op src imm
  let f := fieldsV w
  if w.1 = 0 then (0, 0, 0, false, false, 20)
  else if f.1 = true ∧ dst > 10 ∨ f.2.1 = true ∧ dst = 10 ∨ f.2.2.1 = true ∧ src > 10 then (0, 0, 0, false, false, 21)
  else if f.1 = false ∧ dst ≠ 0 ∨ f.2.2.1 = false ∧ src ≠ 0 ∧ w.1 ≠ 11 ∨ f.2.2.2.1 = false ∧ off ≠ 0 ∨ f.2.2.2.2 = false ∧ imm ≠ 0 then (0, 0, 0, false, false, 22)
  else (w.1, w.2.1, w.2.2.1, w.2.2.2.1, w.2.2.2.2, 0)
end Go.Proofs.YtdhiibkcoolbeaaDoor.Pure

/- Chapter 04: what Of and Places come to, in plain terms (as in chapter 02). -/
namespace Go.Proofs.YtdhiibkcoolbeaaDoor.Pure
open Go.RowKit Go.Proofs.YtdhiibkcoolbeaaDoorW.PrintWords Go.Proofs.YtdhiibkcoolbeaaDoorW.PrintLast Go.Proofs.YtdhiibkcoolbeaaDoorW.PrintMore Go.Proofs.YtdhiibkcoolbeaaDoor.P
set_option linter.unusedVariables false
set_option linter.unusedSimpArgs false

set_option maxHeartbeats 4000000 in
theorem Of_eq {op dst src off imm : Int} (k : Nat) (h0 : 0 ≤ op) (h1 : op ≤ 255) (s0 : 0 ≤ src) (s1 : src ≤ 255) (i0 : -2147483648 ≤ imm) (i1 : imm ≤ 2147483647) :
    insn_Of.f (k + 4) op dst src off imm = some (ofV op dst src off imm) := by
  unfold insn_Of.f
  rw [kind_eq k h0 h1 s0 s1 i0 i1]
  obtain ⟨a, b, c, d, e, hk⟩ : ∃ a b c d e, kindV op src imm = (a, b, c, d, e) := ⟨_, _, _, _, _, rfl⟩
  have hz : kindV op src imm = zeroV ∨ (kindV op src imm).1 ≠ 0 := by
    unfold kindV jumpV classV
    repeat' split
    all_goals first | exact .inl rfl | (right; simp; done) | (right; simp; omega)
  simp only [Option.bind_some, hk, ofV] at hz ⊢
  rw [show k + 4 = (k + 3) + 1 from rfl, fields_eq]
  generalize fieldsV (a, b, c, d, e) = g
  obtain ⟨g1, g2, g3, g4, g5⟩ := g
  unfold insn_Of.j0
  by_cases ha : a = 0
  · have := hz.resolve_right (by simp [ha])
    simp only [zeroV, Prod.mk.injEq] at this
    obtain ⟨rfl, rfl, rfl, rfl, rfl⟩ := this
    simp
  · simp only [Option.bind_some, ha, if_false]
    have hc : (a == 0 && (b == 0 && (c == 0 && (!d && !e)))) = false := by simp [ha]
    simp only [hc]
    have h10 : dst > 10 → ¬ dst = 0 := by omega
    have h11 : dst = 10 → ¬ dst = 0 := by omega
    have h12 : src > 10 → ¬ src = 0 := by omega
    clear hc hz hk ha h0 h1 s0 s1 i0 i1
    cases g1 <;> cases g2 <;> cases g3 <;> cases g4 <;> cases g5 <;> simp (config := { decide := true }) only [if_true, if_false, Bool.false_eq_true, reduceIte, true_and, false_and, false_or, or_false, and_true, and_false, ne_eq, bne_iff_ne, decide_eq_true_eq, reduceCtorEq]
    all_goals (repeat' split)
    all_goals (first | rfl | (exfalso; omega) | simp_all)
def kOf (w : W5) (r : Int) : Int × Int × Int × Bool × Bool × Int := (w.1, w.2.1, w.2.2.1, w.2.2.2.1, w.2.2.2.2, r)
def bad1 (f : Bool × Bool × Bool × Bool × Bool) (dst src : Int) : Prop := f.1 = true ∧ dst > 10 ∨ f.2.1 = true ∧ dst = 10 ∨ f.2.2.1 = true ∧ src > 10
def bad2 (f : Bool × Bool × Bool × Bool × Bool) (c dst src off imm : Int) : Prop := f.1 = false ∧ dst ≠ 0 ∨ f.2.2.1 = false ∧ src ≠ 0 ∧ c ≠ 11 ∨ f.2.2.2.1 = false ∧ off ≠ 0 ∨ f.2.2.2.2 = false ∧ imm ≠ 0
theorem of_cases (op dst src off imm : Int) :
    ofV op dst src off imm = (0, 0, 0, false, false, 20) ∧ (kindV op src imm).1 = 0 ∨ ofV op dst src off imm = (0, 0, 0, false, false, 21) ∧ (kindV op src imm).1 ≠ 0 ∨ ofV op dst src off imm = (0, 0, 0, false, false, 22) ∧ (kindV op src imm).1 ≠ 0 ∨
      ofV op dst src off imm = kOf (kindV op src imm) 0 ∧ (kindV op src imm).1 ≠ 0 ∧ ¬ bad1 (fieldsV (kindV op src imm)) dst src ∧ ¬ bad2 (fieldsV (kindV op src imm)) (kindV op src imm).1 dst src off imm := by
  unfold ofV kOf bad1 bad2
  by_cases h0 : (kindV op src imm).1 = 0
  · left; exact ⟨by rw [if_pos h0], h0⟩
  · right
    by_cases h1 : (fieldsV (kindV op src imm)).1 = true ∧ dst > 10 ∨ (fieldsV (kindV op src imm)).2.1 = true ∧ dst = 10 ∨ (fieldsV (kindV op src imm)).2.2.1 = true ∧ src > 10
    · left; exact ⟨by rw [if_neg h0, if_pos h1], h0⟩
    · right
      by_cases h2 : (fieldsV (kindV op src imm)).1 = false ∧ dst ≠ 0 ∨ (fieldsV (kindV op src imm)).2.2.1 = false ∧ src ≠ 0 ∧ (kindV op src imm).1 ≠ 11 ∨ (fieldsV (kindV op src imm)).2.2.2.1 = false ∧ off ≠ 0 ∨ (fieldsV (kindV op src imm)).2.2.2.2 = false ∧ imm ≠ 0
      · left; exact ⟨by rw [if_neg h0, if_neg h1, if_pos h2], h0⟩
      · right; exact ⟨by rw [if_neg h0, if_neg h1, if_neg h2], h0, h1, h2⟩
theorem of_ok {op dst src off imm : Int} (h : (ofV op dst src off imm).2.2.2.2.2 = 0) :
    ofV op dst src off imm = kOf (kindV op src imm) 0 ∧ (kindV op src imm).1 ≠ 0 ∧ ¬ bad1 (fieldsV (kindV op src imm)) dst src ∧ ¬ bad2 (fieldsV (kindV op src imm)) (kindV op src imm).1 dst src off imm := by
  rcases of_cases op dst src off imm with h' | h' | h' | h'
  · rw [h'.1] at h; exact absurd h (by decide)
  · rw [h'.1] at h; exact absurd h (by decide)
  · rw [h'.1] at h; exact absurd h (by decide)
  · exact h'
theorem of_no {op dst src off imm : Int} (h : (ofV op dst src off imm).2.2.2.2.2 ≠ 0) : ∃ r, ofV op dst src off imm = (0, 0, 0, false, false, r) ∧ r ≠ 0 := by
  rcases of_cases op dst src off imm with h' | h' | h' | h'
  · exact ⟨20, h'.1, by decide⟩
  · exact ⟨21, h'.1, by decide⟩
  · exact ⟨22, h'.1, by decide⟩
  · rw [h'.1] at h; exact absurd rfl h
theorem of_yes {op dst src off imm : Int} (h0 : (kindV op src imm).1 ≠ 0) (h1 : ¬ bad1 (fieldsV (kindV op src imm)) dst src) (h2 : ¬ bad2 (fieldsV (kindV op src imm)) (kindV op src imm).1 dst src off imm) :
    ofV op dst src off imm = kOf (kindV op src imm) 0 := by
  unfold bad1 at h1
  unfold bad2 at h2
  unfold ofV kOf
  simp only [if_neg h0, if_neg h1, if_neg h2]
def placesV (w : W5) : Int := if w.1 = 10 ∨ w.1 = 11 then 2 else 1
theorem Places_eq {op dst src off imm : Int} (k : Nat) (h0 : 0 ≤ op) (h1 : op ≤ 255) (s0 : 0 ≤ src) (s1 : src ≤ 255) (i0 : -2147483648 ≤ imm) (i1 : imm ≤ 2147483647) :
    insn_Places.f (k + 4) op dst src off imm = some (if (ofV op dst src off imm).2.2.2.2.2 = 0 then placesV (kindV op src imm) else 0) := by
  unfold insn_Places.f
  rw [Of_eq k h0 h1 s0 s1 i0 i1, Option.bind_some]
  by_cases he : (ofV op dst src off imm).2.2.2.2.2 = 0
  · rw [if_pos he, if_pos he, (of_ok he).1]
    unfold kOf placesV
    dsimp only
    by_cases c1 : (kindV op src imm).1 = 10 <;> by_cases c2 : (kindV op src imm).1 = 11 <;> simp [c1, c2]
  · rw [if_neg he, if_neg he]
end Go.Proofs.YtdhiibkcoolbeaaDoor.Pure

/- Chapter 04: the places at which instructions begin, in plain terms. -/
namespace Go.Proofs.YtdhiibkcoolbeaaDoor.Pure
open Go.RowKit Go.Proofs.YtdhiibkcoolbeaaDoorW.PrintWords Go.Proofs.YtdhiibkcoolbeaaDoorW.PrintLast Go.Proofs.YtdhiibkcoolbeaaDoorW.PrintMore Go.Proofs.YtdhiibkcoolbeaaDoor.P
set_option linter.unusedVariables false
set_option linter.unusedSimpArgs false

section
variable {pl : Nat → Int} {n : Nat}
def nx (pl : Nat → Int) (i : Nat) : Nat := i + (mx (pl i) 1).toNat
theorem nx_gt (i : Nat) : i < nx pl i := by have := mx1 (pl i); unfold nx; omega
theorem beg_ind {q : Nat → List (Fin n) → Prop} (h0 : ∀ i, ¬ i < n → q i []) (h1 : ∀ i (h : i < n), q (nx pl i) (beg pl n (nx pl i)) → q i (⟨i, h⟩ :: beg pl n (nx pl i))) : ∀ i, q i (beg pl n i) := by
  have : ∀ m i, n - i ≤ m → q i (beg pl n i) := by
    intro m
    induction m with
    | zero => intro i hi; rw [beg_ge (by omega)]; exact h0 i (by omega)
    | succ m ih =>
      intro i hi
      by_cases h : i < n
      · rw [beg_lt h]; exact h1 i h (ih _ (by have := nx_gt (pl := pl) i; omega))
      · rw [beg_ge h]; exact h0 i h
  exact fun i => this (n - i) i (Nat.le_refl _)
theorem beg_le (i : Nat) : ∀ p ∈ beg pl n i, i ≤ p.1 := by
  refine beg_ind (q := fun i l => ∀ p ∈ l, i ≤ p.1) (fun i _ p hp => by simp at hp) (fun i h ih p hp => ?_) i
  rcases List.mem_cons.1 hp with rfl | hp
  · exact Nat.le_refl _
  · have := ih p hp; have := nx_gt (pl := pl) i; omega
theorem beg_next (i : Nat) : ∀ p ∈ beg pl n i, ∀ h : nx pl p.1 < n, (⟨nx pl p.1, h⟩ : Fin n) ∈ beg pl n i := by
  refine beg_ind (q := fun i l => ∀ p ∈ l, ∀ h : nx pl p.1 < n, (⟨nx pl p.1, h⟩ : Fin n) ∈ l) (fun i _ p hp => by simp at hp) (fun i h ih p hp hn => ?_) i
  rcases List.mem_cons.1 hp with rfl | hp
  · refine List.mem_cons_of_mem _ ?_
    have hn' : nx pl i < n := hn
    rw [beg_lt hn']
    exact List.mem_cons_self
  · exact List.mem_cons_of_mem _ (ih p hp hn)
theorem beg_gap (i : Nat) : ∀ p ∈ beg pl n i, ∀ r ∈ beg pl n i, p.1 < r.1 → nx pl p.1 ≤ r.1 := by
  refine beg_ind (q := fun i l => ∀ p ∈ l, ∀ r ∈ l, p.1 < r.1 → nx pl p.1 ≤ r.1) (fun i _ p hp => by simp at hp) (fun i h ih p hp r hr hlt => ?_) i
  rcases List.mem_cons.1 hp with rfl | hp
  · rcases List.mem_cons.1 hr with rfl | hr
    · exact absurd hlt (Nat.lt_irrefl _)
    · exact beg_le _ r hr
  · rcases List.mem_cons.1 hr with rfl | hr
    · have := beg_le (pl := pl) (n := n) _ p hp; have := nx_gt (pl := pl) i; simp at hlt; omega
    · exact ih p hp r hr hlt
theorem beg_last (i : Nat) : ∀ p ∈ beg pl n i, n ≤ nx pl p.1 → (beg pl n i).getLast? = some p := by
  refine beg_ind (q := fun i l => ∀ p ∈ l, n ≤ nx pl p.1 → l.getLast? = some p) (fun i _ p hp => by simp at hp) (fun i h ih p hp hn => ?_) i
  rcases List.mem_cons.1 hp with rfl | hp
  · rw [beg_ge (by simpa using hn)]; rfl
  · rw [List.getLast?_cons, ih p hp hn]; rfl
theorem beg_zero (h : 0 < n) : (⟨0, h⟩ : Fin n) ∈ beg pl n 0 := by rw [beg_lt h]; exact List.mem_cons_self
theorem beg_congr {pl' : Nat → Int} (h : ∀ i, i < n → pl i = pl' i) : ∀ i, beg pl n i = beg pl' n i := by
  refine beg_ind (q := fun i l => l = beg pl' n i) (fun i hi => (beg_ge hi).symm) (fun i hi ih => ?_)
  rw [ih, beg_lt hi, h i hi |> fun e => show nx pl i = nx pl' i by unfold nx; rw [e]]; rfl
/-- Does an instruction begin there? -/
def bg (pl : Nat → Int) (n i : Nat) : Bool := (beg pl n 0).any fun p => p.1 == i
theorem bg_iff {i : Nat} : bg pl n i = true ↔ ∃ h : i < n, (⟨i, h⟩ : Fin n) ∈ beg pl n 0 := by
  unfold bg
  rw [List.any_eq_true]
  constructor
  · rintro ⟨p, hp, e⟩
    have e : p.1 = i := by simpa using e
    subst e
    exact ⟨p.2, hp⟩
  · rintro ⟨h, hp⟩
    exact ⟨_, hp, by simp⟩
theorem marks_get (ps : List (Fin n)) : ∀ i : Nat, (marks ps).getD i false = ps.any fun p => p.1 == i := by
  have h : ∀ (ps : List (Fin n)) (l : List Bool), l.length = n → ∀ i : Nat, (ps.foldl (fun l p => l.set p.1 true) l).getD i false = (l.getD i false || ps.any fun p => p.1 == i) := by
    intro ps
    induction ps with
    | nil => intro l _ i; simp
    | cons p ps ih =>
      intro l hl i
      rw [List.foldl_cons, ih _ (by rw [List.length_set]; exact hl), List.any_cons]
      have hp : p.1 < l.length := by rw [hl]; exact p.2
      by_cases e : p.1 = i
      · subst e; simp [List.getD_eq_getElem?_getD, hp]
      · have e' : (p.1 == i) = false := by simpa using e
        simp [List.getD_eq_getElem?_getD, List.getElem?_set, e, e']
  intro i
  rw [marks, h ps _ (by simp) i]
  have : (List.replicate n false).getD i false = false := by simp [List.getD_eq_getElem?_getD, List.getElem?_replicate]; split <;> rfl
  rw [this, Bool.false_or]
theorem rd_marks {i : Int} (h : 0 ≤ i) : rdOf false (marks (beg pl n 0)) i = bg pl n i.toNat := by
  unfold rdOf bg; exact marks_get _ _
end
end Go.Proofs.YtdhiibkcoolbeaaDoor.Pure

/- Chapter 04: what alone, Starts and Check come to, in plain terms. -/
namespace Go.Proofs.YtdhiibkcoolbeaaDoor.Pure
open Go.RowKit Go.Proofs.YtdhiibkcoolbeaaDoorW.PrintWords Go.Proofs.YtdhiibkcoolbeaaDoorW.PrintLast Go.Proofs.YtdhiibkcoolbeaaDoorW.PrintMore Go.Proofs.YtdhiibkcoolbeaaDoor.P Go.Proofs.YtdhiibkcoolbeaaDoor.Opening
set_option linter.unusedVariables false
set_option linter.unusedSimpArgs false

/-- What Of answers of an instruction. -/
def ofx (x : S40) : Int × Int × Int × Bool × Bool × Int := ofV x.f0 x.f1 x.f2 x.f3 x.f4
def plx (x : S40) : Int := if (ofx x).2.2.2.2.2 = 0 then placesV (kindV x.f0 x.f2 x.f4) else 0
theorem of_at {x : S40} (h : ok40 x) (k : Nat) : insn_Of.f (k + 4) x.f0 x.f1 x.f2 x.f3 x.f4 = some (ofx x) := by
  obtain ⟨⟨h0, h1⟩, _, ⟨s0, s1⟩, _, ⟨i0, i1⟩⟩ := ok40_open h
  exact Of_eq k h0 h1 s0 s1 i0 i1
theorem pl_at {x : S40} (h : ok40 x) (k : Nat) : insn_Places.f (k + 4) x.f0 x.f1 x.f2 x.f3 x.f4 = some (plx x) := by
  obtain ⟨⟨h0, h1⟩, _, ⟨s0, s1⟩, _, ⟨i0, i1⟩⟩ := ok40_open h
  exact Places_eq k h0 h1 s0 s1 i0 i1
theorem plx_le (x : S40) : plx x = 0 ∨ plx x = 1 ∨ plx x = 2 := by
  unfold plx placesV
  split
  · split
    · exact .inr (.inr rfl)
    · exact .inr (.inl rfl)
  · exact .inl rfl
theorem ok40_z : ok40 z40 := ⟨by decide, by decide, by decide, by decide, by decide⟩
theorem ok_rd {C : List S40} (h : ∀ z ∈ C, ok40 z) (i : Int) : ok40 (rd_T40 C i) := by
  unfold rd_T40
  rw [List.getD_eq_getElem?_getD]
  cases hx : C[i.toNat]? with
  | none => exact ok40_z
  | some x => exact h x (List.mem_of_getElem? hx)
def rdn (C : List S40) (i : Nat) : S40 := rd_T40 C (i : Int)
def plC (C : List S40) (i : Nat) : Int := plx (rdn C i)
theorem ofF_eq {C : List S40} (h : ∀ z ∈ C, ok40 z) (k i : Nat) : ofF (k + 4) C i = ofx (rdn C i) := by
  unfold ofF rdn; rw [of_at (ok_rd h _) k]; rfl
theorem plF_eq {C : List S40} (h : ∀ z ∈ C, ok40 z) (k i : Nat) : plF (k + 4) C i = plC C i := by
  unfold plF plC rdn; rw [pl_at (ok_rd h _) k]; rfl
theorem plF_fun {C : List S40} (h : ∀ z ∈ C, ok40 z) (k : Nat) : plF (k + 4) C = plC C := funext (plF_eq h k)
theorem plAll_ok {C : List S40} (h : ∀ z ∈ C, ok40 z) (k : Nat) : plAll (k + 4) C = true := by
  refine List.all_eq_true.2 fun i _ => ?_
  unfold plOk
  rw [pl_at (ok_rd h _) k]
  rcases plx_le (rd_T40 C (i : Int)) with e | e | e <;> rw [e] <;> rfl
theorem ofAll_ok {C : List S40} (h : ∀ z ∈ C, ok40 z) (k : Nat) : ofAll (k + 4) C = true := by
  refine List.all_eq_true.2 fun i _ => ?_
  rw [of_at (ok_rd h _) k]; rfl
theorem mayAll_ok (M : List S52) : mayAll M = true := by
  refine List.all_eq_true.2 fun i _ => ?_
  unfold shape_may.f
  repeat' split
  all_goals rfl
/-- What alone's error is. -/
def alE (M : List S52) (C : List S40) (i : Nat) : Int :=
  let w := ofx (rdn C i)
  if w.2.2.2.2.2 ≠ 0 then w.2.2.2.2.2
  else if w.1 = 10 ∨ w.1 = 11 then
    if i + 1 = C.length then 23
    else
      let s := rdn C (i + 1)
      if s.f0 ≠ 0 ∨ s.f1 ≠ 0 ∨ s.f2 ≠ 0 ∨ s.f3 ≠ 0 ∨ w.1 = 11 ∧ s.f4 ≠ 0 then 23
      else if w.1 = 11 ∧ ((rdn C i).f4 < 0 ∨ (rdn C i).f4 ≥ M.length) then 26 else 0
  else if w.1 = 8 ∧ ¬ ((rdn C i).f4 = 1 ∨ (rdn C i).f4 = 2 ∨ (rdn C i).f4 = 3 ∨ (rdn C i).f4 = 5 ∨ (rdn C i).f4 = 7) then 27 else 0
def alX (M : List S52) (C : List S40) (i : Nat) : Int × Int × Int × Bool × Bool × Int :=
  let w := ofx (rdn C i)
  (w.1, w.2.1, w.2.2.1, w.2.2.2.1, w.2.2.2.2.1, alE M C i)
def helpB (n : Int) : Bool := decide (n = 1 ∨ n = 2 ∨ n = 3 ∨ n = 5 ∨ n = 7)
theorem Helper_eq (n : Int) : shape_Helper.f n = some (helpB n) := by
  unfold shape_Helper.f helpB
  repeat' split
  all_goals simp_all
set_option maxHeartbeats 2000000 in
theorem alone_eq {M : List S52} {C : List S40} (h : ∀ z ∈ C, ok40 z) (hl : C.length < 9223372036854775807) (k i : Nat) (hi : i < C.length) : shape_alone.f (k + 4) M C (i : Int) = some (alX M C i) := by
  have hw : wrap64 ((i : Int) + 1) = ((i + 1 : Nat) : Int) := by rw [fitW (by omega) (by omega)]; rfl
  obtain ⟨_, _, _, _, ⟨i0, i1⟩⟩ := ok40_open (ok_rd h (i : Int))
  have hw4 : wrap64 (rd_T40 C (i : Int)).f4 = (rd_T40 C (i : Int)).f4 := fitW (by omega) (by omega)
  unfold shape_alone.f
  rw [if_pos (by omega), if_pos (by omega), of_at (ok_rd h _) k, Option.bind_some]
  unfold alX alE
  have er : rdn C i = rd_T40 C (i : Int) := rfl
  have er1 : rdn C (i + 1) = rd_T40 C ((i + 1 : Nat) : Int) := rfl
  rw [er, er1]
  dsimp only
  generalize ofx (rd_T40 C (i : Int)) = g
  obtain ⟨g1, g2, g3, g4, g5, g6⟩ := g
  dsimp only
  by_cases c6 : g6 = 0
  · rw [if_pos c6]
    subst c6
    unfold shape_alone.j0 shape_alone.j1
    simp only [hw, hw4, Helper_eq]
    have e1 : (((i + 1 : Nat) : Int) = (C.length : Int)) ↔ i + 1 = C.length := by omega
    have e2 : (0 : Int) ≤ ((i + 1 : Nat) : Int) := by omega
    simp only [e1, if_pos e2]
    generalize rd_T40 C ((i + 1 : Nat) : Int) = s at *
    generalize rd_T40 C (i : Int) = r at *
    by_cases c10 : g1 = 10
    · subst c10
      by_cases ce : i + 1 = C.length
      · simp [ce]
      · have e3 : ((i + 1 : Nat) : Int) < (C.length : Int) := by omega
        simp only [ce, e3, if_true, if_false, ne_eq, not_true_eq_false, true_or, show ¬ ((10 : Int) = 11) by decide, false_and, or_false, show ((10 : Int) == 10) = true by decide]
        by_cases a0 : s.f0 = 0 <;> by_cases a1 : s.f1 = 0 <;> by_cases a2 : s.f2 = 0 <;> by_cases a3 : s.f3 = 0 <;> simp [a0, a1, a2, a3]
    · rw [if_neg c10]
      by_cases c11 : g1 = 11
      · subst c11
        by_cases ce : i + 1 = C.length
        · simp [ce]
        · have e3 : ((i + 1 : Nat) : Int) < (C.length : Int) := by omega
          simp only [ce, e3, if_true, if_false, ne_eq, not_true_eq_false, or_true, true_and, show ¬ ((11 : Int) = 10) by decide, show ((11 : Int) == 11) = true by decide]
          by_cases a0 : s.f0 = 0 <;> by_cases a1 : s.f1 = 0 <;> by_cases a2 : s.f2 = 0 <;> by_cases a3 : s.f3 = 0 <;> by_cases a4 : s.f4 = 0 <;> simp [a0, a1, a2, a3, a4]
          by_cases b0 : r.f4 < 0 <;> by_cases b1 : (M.length : Int) ≤ r.f4 <;> simp [b0, b1]
      · have c11' : (g1 == 11) = false := by simpa using c11
        simp only [c11', Bool.false_eq_true, if_false, c10, c11, or_self, ne_eq, not_true_eq_false]
        by_cases c8 : g1 = 8
        · subst c8
          unfold helpB
          simp only [if_true, Option.bind_some, true_and, decide_eq_true_eq]
          split <;> simp_all
        · simp [c8]
  · rw [if_neg c6]; simp [c6]
theorem alF_eq {M : List S52} {C : List S40} (h : ∀ z ∈ C, ok40 z) (hl : C.length < 9223372036854775807) (k i : Nat) (hi : i < C.length) : alF (k + 4) M C i = alX M C i := by
  unfold alF; rw [alone_eq h hl k i hi]; rfl
theorem alAll_ok {M : List S52} {C : List S40} (h : ∀ z ∈ C, ok40 z) (hl : C.length < 9223372036854775807) (k : Nat) : alAll (k + 4) M C = true := by
  refine List.all_eq_true.2 fun i hi => ?_
  rw [alone_eq h hl k i (List.mem_range.1 hi)]; rfl
/-- Where instructions begin. -/
def stC (C : List S40) : List Bool := marks (beg (plC C) C.length 0)
theorem Starts_eq {C : List S40} (h : ∀ z ∈ C, ok40 z) (hl : C.length ≤ 281474976710656) : shape_Starts.f C = some (stC C) := by
  unfold shape_Starts.f startsK
  rw [if_pos ⟨hl, plAll_ok h 36⟩, plF_fun h 36]; rfl
theorem stC_len (C : List S40) : (stC C).length = C.length := marks_len _
theorem stC_get (C : List S40) {i : Int} (h : 0 ≤ i) : rdOf false (stC C) i = bg (plC C) C.length i.toNat := rd_marks h
/-- A right image: what Check has seen of it. -/
structure Right (M : List S52) (C : List S40) : Prop where
  pos : 0 < C.length
  le : C.length ≤ 512
  mle : M.length ≤ 4
  maps : mapsBad M = none
  alone : ∀ i, bg (plC C) C.length i = true → alE M C i = 0
  jumps : ∀ i, bg (plC C) C.length i = true → badJ 40 C (stC C) i = false
  last : ∀ p, (beg (plC C) C.length 0).getLast? = some p → (ofx (rdn C p.1)).1 = 7 ∨ (ofx (rdn C p.1)).1 = 9
theorem Check_some {M : List S52} {C : List S40} (h : ∀ z ∈ C, ok40 z) : ∃ v, shape_Check.f M C = some v := by
  unfold shape_Check.f checkK
  by_cases c0 : C.length = 0
  · rw [if_pos c0]; exact ⟨_, rfl⟩
  · rw [if_neg c0]
    by_cases c1 : C.length > 512 ∨ M.length > 4
    · rw [if_pos c1]; exact ⟨_, rfl⟩
    · rw [if_neg c1, if_pos ⟨plAll_ok h 36, alAll_ok h (by omega) 36, ofAll_ok h 36, mayAll_ok M⟩]; exact ⟨_, rfl⟩
theorem right_of {M : List S52} {C : List S40} (h : ∀ z ∈ C, ok40 z) {v : Int × Int} (hv : shape_Check.f M C = some v) (h0 : v.2 = 0) : Right M C := by
  unfold shape_Check.f checkK at hv
  by_cases c0 : C.length = 0
  · rw [if_pos c0] at hv; cases hv; exact absurd h0 (by decide)
  rw [if_neg c0] at hv
  by_cases c1 : C.length > 512 ∨ M.length > 4
  · rw [if_pos c1] at hv; cases hv; exact absurd h0 (by decide)
  rw [if_neg c1, if_pos ⟨plAll_ok h 36, alAll_ok h (by omega) 36, ofAll_ok h 36, mayAll_ok M⟩] at hv
  obtain rfl := Option.some.inj hv
  unfold checkV at h0
  rw [plF_fun h 36] at h0
  cases hm : mapsBad M with
  | some i => rw [hm] at h0; exact absurd h0 (by simp)
  | none =>
    rw [hm] at h0
    dsimp only at h0
    cases ha : (beg (plC C) C.length 0).find? fun p => decide ((alF 40 M C p.1).2.2.2.2.2 ≠ 0) with
    | some p =>
      rw [ha] at h0
      have := List.find?_some ha
      simp at this
      exact absurd h0 this
    | none =>
      rw [ha] at h0
      dsimp only at h0
      cases hj : (beg (plC C) C.length 0).find? fun p => badJ 40 C (marks (beg (plC C) C.length 0)) p.1 with
      | some p => rw [hj] at h0; exact absurd h0 (by simp)
      | none =>
        rw [hj] at h0
        dsimp only at h0
        refine ⟨by omega, by omega, by omega, hm, fun i hi => ?_, fun i hi => ?_, fun p hp => ?_⟩
        · obtain ⟨hl, hmem⟩ := bg_iff.1 hi
          have := List.find?_eq_none.1 ha _ hmem
          rw [alF_eq h (by omega) 36 i hl] at this
          exact Decidable.byContradiction fun hne => this (decide_eq_true hne)
        · obtain ⟨hl, hmem⟩ := bg_iff.1 hi
          have := List.find?_eq_none.1 hj _ hmem
          simpa [stC] using this
        · rw [hp] at h0
          simp only [Option.map_some, Option.getD_some, alF_eq h (show C.length < 9223372036854775807 by omega) 36 p.1 p.2] at h0
          by_cases e : (ofx (rdn C p.1)).1 = 7 ∨ (ofx (rdn C p.1)).1 = 9
          · exact e
          · rw [if_pos (by simpa [alX, not_or] using e)] at h0
            exact absurd h0 (by simp)
theorem right_eq {M : List S52} {C : List S40} (h : ∀ z ∈ C, ok40 z) (R : Right M C) : shape_Check.f M C = some (0, 0) := by
  unfold shape_Check.f checkK
  rw [if_neg (by have := R.pos; omega), if_neg (by have := R.le; have := R.mle; omega), if_pos ⟨plAll_ok h 36, alAll_ok h (by have := R.le; omega) 36, ofAll_ok h 36, mayAll_ok M⟩]
  have ha : ((beg (plC C) C.length 0).find? fun p => decide ((alF 40 M C p.1).2.2.2.2.2 ≠ 0)) = none := by
    rw [List.find?_eq_none]
    intro p hp
    rw [alF_eq h (by have := R.le; omega) 36 p.1 p.2]
    exact fun hd => (of_decide_eq_true hd) (R.alone p.1 (bg_iff.2 ⟨p.2, hp⟩))
  have hj : ((beg (plC C) C.length 0).find? fun p => badJ 40 C (marks (beg (plC C) C.length 0)) p.1) = none := by
    rw [List.find?_eq_none]
    intro p hp
    have := R.jumps p.1 (bg_iff.2 ⟨p.2, hp⟩)
    simpa [stC] using this
  unfold checkV
  rw [plF_fun h 36, R.maps]
  dsimp only
  rw [ha]
  dsimp only
  rw [hj]
  dsimp only
  have hne : beg (plC C) C.length 0 ≠ [] := by rw [beg_lt R.pos]; simp
  obtain ⟨p, hp⟩ : ∃ p, (beg (plC C) C.length 0).getLast? = some p := ⟨_, List.getLast?_eq_some_getLast hne⟩
  rw [hp]
  simp only [Option.map_some, Option.getD_some, alF_eq h (show C.length < 9223372036854775807 by have := R.le; omega) 36 p.1 p.2]
  have := R.last p hp
  rw [if_neg (by simp [alX]; intro h7; exact this.resolve_left h7)]
end Go.Proofs.YtdhiibkcoolbeaaDoor.Pure

/- Chapter 04: where instructions begin, place by place; what Check answers, case by case. -/
namespace Go.Proofs.YtdhiibkcoolbeaaDoor.Pure
open Go.RowKit Go.Proofs.YtdhiibkcoolbeaaDoorW.PrintWords Go.Proofs.YtdhiibkcoolbeaaDoorW.PrintLast Go.Proofs.YtdhiibkcoolbeaaDoorW.PrintMore Go.Proofs.YtdhiibkcoolbeaaDoor.P Go.Proofs.YtdhiibkcoolbeaaDoor.Opening
set_option linter.unusedVariables false
set_option linter.unusedSimpArgs false

section
variable {pl : Nat → Int} {n : Nat}
theorem bg_zero (h : 0 < n) : bg pl n 0 = true := bg_iff.2 ⟨h, beg_zero h⟩
theorem bg_one {i : Nat} (h : bg pl n i = true) (hx : nx pl i = i + 1) (hn : i + 1 < n) : bg pl n (i + 1) = true := by
  obtain ⟨hl, hm⟩ := bg_iff.1 h
  have h2 : nx pl i < n := by omega
  have := beg_next _ _ hm h2
  exact bg_iff.2 ⟨hn, by simpa only [hx] using this⟩
theorem bg_two {i : Nat} (h : bg pl n i = true) (hx : nx pl i = i + 2) (hn : i + 2 < n) : bg pl n (i + 2) = true := by
  obtain ⟨hl, hm⟩ := bg_iff.1 h
  have h2 : nx pl i < n := by omega
  have := beg_next _ _ hm h2
  exact bg_iff.2 ⟨hn, by simpa only [hx] using this⟩
theorem bg_mid {i : Nat} (h : bg pl n i = true) (hx : nx pl i = i + 2) : bg pl n (i + 1) = false := by
  cases hb : bg pl n (i + 1) with
  | false => rfl
  | true =>
    obtain ⟨_, m1⟩ := bg_iff.1 h
    obtain ⟨_, m2⟩ := bg_iff.1 hb
    have := beg_gap _ _ m1 _ m2 (by simp)
    simp at this
    omega
theorem bg_cases (h2 : ∀ i, nx pl i = i + 1 ∨ nx pl i = i + 2) : ∀ i, i < n → bg pl n i = true ∨ ∃ j, i = j + 1 ∧ bg pl n j = true ∧ nx pl j = j + 2
  | 0, h => .inl (bg_zero h)
  | i + 1, h => by
    rcases bg_cases h2 i (by omega) with hb | ⟨j, rfl, hb, hx⟩
    · rcases h2 i with e | e
      · exact .inl (bg_one hb e h)
      · exact .inr ⟨i, rfl, hb, e⟩
    · exact .inl (bg_two hb hx h)
/-- Behind a place at which none begins, one begins. -/
theorem bg_after (h2 : ∀ i, nx pl i = i + 1 ∨ nx pl i = i + 2) {i : Nat} (hi : i + 1 < n) (hb : bg pl n i = false) : bg pl n (i + 1) = true := by
  rcases bg_cases (n := n) h2 i (by omega) with h | ⟨j, rfl, h, hx⟩
  · rw [hb] at h; exact absurd h (by decide)
  · exact bg_two h hx hi
end
theorem nxC (C : List S40) (i : Nat) : nx (plC C) i = i + 1 ∨ nx (plC C) i = i + 2 := by
  unfold nx plC mx
  rcases plx_le (rdn C i) with e | e | e <;> rw [e] <;> simp
theorem nxC_two (C : List S40) (i : Nat) : nx (plC C) i = i + 2 ↔ plx (rdn C i) = 2 := by
  unfold nx plC mx
  rcases plx_le (rdn C i) with e | e | e <;> rw [e] <;> simp
/-- Does one begin there, told from the left? -/
def bgR (pl : Nat → Int) : Nat → Bool
  | 0 => true
  | i + 1 => !(bgR pl i) || decide (nx pl i = i + 1)
theorem bg_R {pl : Nat → Int} {n : Nat} (h2 : ∀ i, nx pl i = i + 1 ∨ nx pl i = i + 2) : ∀ i, i < n → bg pl n i = bgR pl i
  | 0, h => bg_zero h
  | i + 1, h => by
    have ih := bg_R (n := n) h2 i (by omega)
    unfold bgR
    rw [← ih]
    cases hb : bg pl n i with
    | false => rw [bg_after h2 h hb]; rfl
    | true =>
      rcases h2 i with e | e
      · rw [bg_one hb e h]; simp [e]
      · rw [bg_mid hb e]; simp [e]
theorem bg_C (C : List S40) {i : Nat} (h : i < C.length) : bg (plC C) C.length i = bgR (plC C) i := bg_R (nxC C) i h
theorem bgR_congr {pl pl' : Nat → Int} : ∀ i, (∀ j, j < i → bgR pl j = true → pl j = pl' j) → bgR pl i = bgR pl' i
  | 0, _ => rfl
  | i + 1, h => by
    have ih := bgR_congr i (fun j hj => h j (by omega))
    unfold bgR
    cases hb : bgR pl i with
    | false => rw [hb] at ih; rw [← ih]; rfl
    | true =>
      have e := h i (by omega) hb
      rw [hb] at ih
      rw [← ih]
      have : nx pl i = nx pl' i := by unfold nx; rw [e]
      rw [this]
section
variable {pl : Nat → Int} {n : Nat}
theorem find_first {f : Fin n → Bool} (i : Nat) : ∀ p, (beg pl n i).find? f = some p → p ∈ beg pl n i ∧ f p = true ∧ ∀ q ∈ beg pl n i, q.1 < p.1 → f q = false := by
  refine beg_ind (q := fun i l => ∀ p, l.find? f = some p → p ∈ l ∧ f p = true ∧ ∀ q ∈ l, q.1 < p.1 → f q = false) (fun i _ p hp => by simp at hp) (fun i h ih p hp => ?_) i
  rw [List.find?_cons] at hp
  cases hf : f ⟨i, h⟩ with
  | true =>
    rw [hf] at hp
    obtain rfl := Option.some.inj hp
    refine ⟨List.mem_cons_self, hf, fun q hq hlt => ?_⟩
    rcases List.mem_cons.1 hq with rfl | hq
    · exact absurd hlt (Nat.lt_irrefl _)
    · have := beg_le _ q hq; have := nx_gt (pl := pl) i; simp at hlt; omega
  | false =>
    rw [hf] at hp
    obtain ⟨h1, h2, h3⟩ := ih p hp
    refine ⟨List.mem_cons_of_mem _ h1, h2, fun q hq hlt => ?_⟩
    rcases List.mem_cons.1 hq with rfl | hq
    · exact hf
    · exact h3 q hq hlt
theorem first_find {f : Fin n → Bool} {p : Fin n} (i : Nat) (hp : p ∈ beg pl n i) (hf : f p = true) (hq : ∀ q ∈ beg pl n i, q.1 < p.1 → f q = false) : (beg pl n i).find? f = some p := by
  cases h : (beg pl n i).find? f with
  | none => have := List.find?_eq_none.1 h p hp; exact absurd hf this
  | some r =>
    obtain ⟨h1, h2, h3⟩ := find_first i r h
    rcases Nat.lt_trichotomy r.1 p.1 with c | c | c
    · rw [hq r h1 c] at h2; exact absurd h2 (by decide)
    · rw [Fin.ext c]
    · rw [h3 p hp c] at hf; exact absurd hf (by decide)
theorem last_max (i : Nat) : ∀ p, (beg pl n i).getLast? = some p → p ∈ beg pl n i ∧ ∀ q ∈ beg pl n i, q.1 ≤ p.1 := by
  refine beg_ind (q := fun i l => ∀ p, l.getLast? = some p → p ∈ l ∧ ∀ q ∈ l, q.1 ≤ p.1) (fun i _ p hp => by simp at hp) (fun i h ih p hp => ?_) i
  rw [List.getLast?_cons] at hp
  cases hl : (beg pl n (nx pl i)).getLast? with
  | none =>
    rw [hl] at hp
    obtain rfl := Option.some.inj hp
    have : beg pl n (nx pl i) = [] := List.getLast?_eq_none_iff.1 hl
    rw [this]
    exact ⟨List.mem_cons_self, fun q hq => by rcases List.mem_cons.1 hq with rfl | hq; exact Nat.le_refl _; simp at hq⟩
  | some r =>
    rw [hl] at hp
    obtain rfl := Option.some.inj hp
    obtain ⟨h1, h2⟩ := ih _ hl
    refine ⟨List.mem_cons_of_mem _ h1, fun q hq => ?_⟩
    rcases List.mem_cons.1 hq with rfl | hq
    · have := beg_le _ _ h1; have := nx_gt (pl := pl) i; simp; omega
    · exact h2 q hq
theorem last_nx {p : Fin n} (h : (beg pl n 0).getLast? = some p) : n ≤ nx pl p.1 := by
  obtain ⟨h1, h2⟩ := last_max 0 p h
  refine Decidable.byContradiction fun hn => ?_
  have hlt : nx pl p.1 < n := by omega
  have := h2 _ (beg_next 0 p h1 hlt)
  have := nx_gt (pl := pl) p.1
  simp at *
  omega
end
theorem split_first {pl : Nat → Int} {n : Nat} (f : Nat → Bool) : (∃ i, bg pl n i = true ∧ f i = true ∧ ∀ j, j < i → bg pl n j = true → f j = false) ∨ ∀ j, bg pl n j = true → f j = false := by
  cases hj : (beg pl n 0).find? fun p => f p.1 with
  | some p =>
    obtain ⟨h1, h2, h3⟩ := find_first 0 p hj
    exact .inl ⟨p.1, bg_iff.2 ⟨p.2, h1⟩, h2, fun j hlt hb => by obtain ⟨hl, hmem⟩ := bg_iff.1 hb; exact h3 _ hmem hlt⟩
  | none =>
    refine .inr fun j hb => ?_
    obtain ⟨hl, hmem⟩ := bg_iff.1 hb
    have := List.find?_eq_none.1 hj _ hmem
    simpa using this
/-- The last place at which one begins. -/
theorem last_some {C : List S40} (h : 0 < C.length) : ∃ p, (beg (plC C) C.length 0).getLast? = some p :=
  ⟨_, List.getLast?_eq_some_getLast (by rw [beg_lt h]; simp)⟩
section
variable {M : List S52} {C : List S40}
theorem Check_maps (hC : ∀ z ∈ C, ok40 z) (h0 : 0 < C.length) (h1 : C.length ≤ 512) (h2 : M.length ≤ 4) {i : Nat} (hm : mapsBad M = some i) : shape_Check.f M C = some ((i : Int), 26) := by
  unfold shape_Check.f checkK
  rw [if_neg (by omega), if_neg (by omega), if_pos ⟨plAll_ok hC 36, alAll_ok hC (by omega) 36, ofAll_ok hC 36, mayAll_ok M⟩]
  unfold checkV
  rw [hm]
theorem Check_alone (hC : ∀ z ∈ C, ok40 z) (h1 : C.length ≤ 512) (h2 : M.length ≤ 4) (hm : mapsBad M = none) {i : Nat} (hb : bg (plC C) C.length i = true) (ha : alE M C i ≠ 0) (hp : ∀ j, j < i → bg (plC C) C.length j = true → alE M C j = 0) : shape_Check.f M C = some ((i : Int), alE M C i) := by
  obtain ⟨hl, hmem⟩ := bg_iff.1 hb
  unfold shape_Check.f checkK
  rw [if_neg (by omega), if_neg (by omega), if_pos ⟨plAll_ok hC 36, alAll_ok hC (by omega) 36, ofAll_ok hC 36, mayAll_ok M⟩]
  unfold checkV
  rw [hm, plF_fun hC 36]
  dsimp only
  have hf : ((beg (plC C) C.length 0).find? fun p => decide ((alF 40 M C p.1).2.2.2.2.2 ≠ 0)) = some ⟨i, hl⟩ := by
    refine first_find 0 hmem ?_ (fun q hq hlt => ?_)
    · rw [alF_eq hC (by omega) 36 i hl]; exact decide_eq_true ha
    · rw [alF_eq hC (by omega) 36 q.1 q.2]
      exact decide_eq_false (fun hn => hn (hp q.1 hlt (bg_iff.2 ⟨q.2, hq⟩)))
  rw [hf]
  dsimp only
  rw [alF_eq hC (by omega) 36 i hl]; rfl
theorem Check_jump (hC : ∀ z ∈ C, ok40 z) (h1 : C.length ≤ 512) (h2 : M.length ≤ 4) (hm : mapsBad M = none) (ha : ∀ j, bg (plC C) C.length j = true → alE M C j = 0) {i : Nat} (hb : bg (plC C) C.length i = true) (hj : badJ 40 C (stC C) i = true) (hp : ∀ j, j < i → bg (plC C) C.length j = true → badJ 40 C (stC C) j = false) : shape_Check.f M C = some ((i : Int), 24) := by
  obtain ⟨hl, hmem⟩ := bg_iff.1 hb
  unfold shape_Check.f checkK
  rw [if_neg (by omega), if_neg (by omega), if_pos ⟨plAll_ok hC 36, alAll_ok hC (by omega) 36, ofAll_ok hC 36, mayAll_ok M⟩]
  unfold checkV
  rw [hm, plF_fun hC 36]
  dsimp only
  have hf : ((beg (plC C) C.length 0).find? fun p => decide ((alF 40 M C p.1).2.2.2.2.2 ≠ 0)) = none := by
    rw [List.find?_eq_none]
    intro p hp'
    rw [alF_eq hC (by omega) 36 p.1 p.2]
    exact fun hd => (of_decide_eq_true hd) (ha p.1 (bg_iff.2 ⟨p.2, hp'⟩))
  have hg : ((beg (plC C) C.length 0).find? fun p => badJ 40 C (marks (beg (plC C) C.length 0)) p.1) = some ⟨i, hl⟩ :=
    first_find 0 hmem hj (fun q hq hlt => hp q.1 hlt (bg_iff.2 ⟨q.2, hq⟩))
  rw [hf]
  dsimp only
  rw [hg]
theorem Check_fall (hC : ∀ z ∈ C, ok40 z) (h1 : C.length ≤ 512) (h2 : M.length ≤ 4) (hm : mapsBad M = none) (ha : ∀ j, bg (plC C) C.length j = true → alE M C j = 0) (hj : ∀ j, bg (plC C) C.length j = true → badJ 40 C (stC C) j = false) {p : Fin C.length} (hp : (beg (plC C) C.length 0).getLast? = some p) (h7 : (ofx (rdn C p.1)).1 ≠ 7) (h9 : (ofx (rdn C p.1)).1 ≠ 9) : shape_Check.f M C = some ((p.1 : Int), 25) := by
  have hl := p.2
  unfold shape_Check.f checkK
  rw [if_neg (by omega), if_neg (by omega), if_pos ⟨plAll_ok hC 36, alAll_ok hC (by omega) 36, ofAll_ok hC 36, mayAll_ok M⟩]
  unfold checkV
  rw [hm, plF_fun hC 36]
  dsimp only
  have hf : ((beg (plC C) C.length 0).find? fun p => decide ((alF 40 M C p.1).2.2.2.2.2 ≠ 0)) = none := by
    rw [List.find?_eq_none]
    intro p hp'
    rw [alF_eq hC (by omega) 36 p.1 p.2]
    exact fun hd => (of_decide_eq_true hd) (ha p.1 (bg_iff.2 ⟨p.2, hp'⟩))
  have hg : ((beg (plC C) C.length 0).find? fun p => badJ 40 C (marks (beg (plC C) C.length 0)) p.1) = none := by
    rw [List.find?_eq_none]
    intro p hp'
    have := hj p.1 (bg_iff.2 ⟨p.2, hp'⟩)
    simpa [stC] using this
  rw [hf]
  dsimp only
  rw [hg]
  dsimp only
  simp only [hp, Option.map_some, Option.getD_some, alF_eq hC (show C.length < 9223372036854775807 by omega) 36 p.1 p.2]
  rw [if_pos (by simp [alX, h7, h9])]
theorem Check_short (h0 : C.length = 0) : shape_Check.f M C = some (0, 4) := by
  unfold shape_Check.f checkK
  rw [if_pos h0]
theorem Check_long (h0 : C.length ≠ 0) (h : C.length > 512 ∨ M.length > 4) : shape_Check.f M C = some (0, 3) := by
  unfold shape_Check.f checkK
  rw [if_neg h0, if_pos h]
/-- Every case of Check. -/
theorem Check_all (hC : ∀ z ∈ C, ok40 z) :
    C.length = 0 ∨ (C.length ≠ 0 ∧ (C.length > 512 ∨ M.length > 4)) ∨
    0 < C.length ∧ C.length ≤ 512 ∧ M.length ≤ 4 ∧ ((∃ i, mapsBad M = some i) ∨
      mapsBad M = none ∧ ((∃ i, bg (plC C) C.length i = true ∧ alE M C i ≠ 0 ∧ ∀ j, j < i → bg (plC C) C.length j = true → alE M C j = 0) ∨
        (∀ j, bg (plC C) C.length j = true → alE M C j = 0) ∧ ((∃ i, bg (plC C) C.length i = true ∧ badJ 40 C (stC C) i = true ∧ ∀ j, j < i → bg (plC C) C.length j = true → badJ 40 C (stC C) j = false) ∨
          (∀ j, bg (plC C) C.length j = true → badJ 40 C (stC C) j = false) ∧ ∃ p, (beg (plC C) C.length 0).getLast? = some p))) := by
  by_cases c0 : C.length = 0
  · exact .inl c0
  by_cases c1 : C.length > 512 ∨ M.length > 4
  · exact .inr (.inl ⟨c0, c1⟩)
  refine .inr (.inr ⟨by omega, by omega, by omega, ?_⟩)
  cases hm : mapsBad M with
  | some i => exact .inl ⟨i, rfl⟩
  | none =>
    refine .inr ⟨rfl, ?_⟩
    rcases split_first (pl := plC C) (n := C.length) (fun i => decide (alE M C i ≠ 0)) with ⟨i, h1, h2, h3⟩ | h
    · exact .inl ⟨i, h1, of_decide_eq_true h2, fun j hj hb => Decidable.byContradiction fun hne => (of_decide_eq_false (h3 j hj hb)) hne⟩
    · refine .inr ⟨fun j hb => Decidable.byContradiction fun hne => (of_decide_eq_false (h j hb)) hne, ?_⟩
      rcases split_first (pl := plC C) (n := C.length) (badJ 40 C (stC C)) with h | h
      · exact .inl h
      · exact .inr ⟨h, last_some (by omega)⟩
end
end Go.Proofs.YtdhiibkcoolbeaaDoor.Pure

/- Chapter 04: a right image, place by place. -/
namespace Go.Proofs.YtdhiibkcoolbeaaDoor.Pure
open Go.RowKit Go.Proofs.YtdhiibkcoolbeaaDoorW.PrintWords Go.Proofs.YtdhiibkcoolbeaaDoorW.PrintLast Go.Proofs.YtdhiibkcoolbeaaDoorW.PrintMore Go.Proofs.YtdhiibkcoolbeaaDoor.P Go.Proofs.YtdhiibkcoolbeaaDoor.Opening
set_option linter.unusedVariables false
set_option linter.unusedSimpArgs false

/-- A jump goes to where one begins. -/
def goJ (C : List S40) (i : Nat) : Prop := (ofx (rdn C i)).1 = 6 ∨ (ofx (rdn C i)).1 = 7 → 0 ≤ toF C i ∧ toF C i < C.length ∧ bgR (plC C) (toF C i).toNat = true
theorem badJ_iff {C : List S40} (hC : ∀ z ∈ C, ok40 z) (i : Nat) : badJ 40 C (stC C) i = false ↔ goJ C i := by
  unfold badJ goJ
  rw [ofF_eq hC 36, stC_len]
  by_cases c : (ofx (rdn C i)).1 = 6 ∨ (ofx (rdn C i)).1 = 7
  · have h1 : (decide ((ofx (rdn C i)).1 = 6) || decide ((ofx (rdn C i)).1 = 7)) = true := by simpa using c
    rw [h1, Bool.true_and]
    simp only [c, true_implies, Bool.or_eq_false_iff, decide_eq_false_iff_not, Bool.not_eq_false']
    constructor
    · rintro ⟨a, b, d⟩
      have h0 : 0 ≤ toF C i := by omega
      have hl : toF C i < C.length := by omega
      rw [stC_get C h0, bg_C C (by omega)] at d
      exact ⟨h0, hl, d⟩
    · rintro ⟨h0, hl, d⟩
      refine ⟨by omega, by omega, ?_⟩
      rw [stC_get C h0, bg_C C (by omega)]
      exact d
  · have h1 : (decide ((ofx (rdn C i)).1 = 6) || decide ((ofx (rdn C i)).1 = 7)) = false := by simpa [not_or] using c
    rw [h1, Bool.false_and]
    simp [c]
/-- A right image, told by its places. -/
structure RightP (M : List S52) (C : List S40) : Prop where
  pos : 0 < C.length
  le : C.length ≤ 512
  mle : M.length ≤ 4
  maps : mapsBad M = none
  alone : ∀ i, i < C.length → bgR (plC C) i = true → alE M C i = 0
  jumps : ∀ i, i < C.length → bgR (plC C) i = true → goJ C i
  last : ∀ i, i < C.length → bgR (plC C) i = true → C.length ≤ nx (plC C) i → (ofx (rdn C i)).1 = 7 ∨ (ofx (rdn C i)).1 = 9
theorem RightP.of {M : List S52} {C : List S40} (hC : ∀ z ∈ C, ok40 z) (R : Right M C) : RightP M C := by
  refine ⟨R.pos, R.le, R.mle, R.maps, fun i hi hb => R.alone i (by rw [bg_C C hi]; exact hb), fun i hi hb => (badJ_iff hC i).1 (R.jumps i (by rw [bg_C C hi]; exact hb)), fun i hi hb hn => ?_⟩
  obtain ⟨hl, hm⟩ := bg_iff.1 (show bg (plC C) C.length i = true by rw [bg_C C hi]; exact hb)
  exact R.last _ (beg_last 0 _ hm hn)
theorem RightP.to {M : List S52} {C : List S40} (hC : ∀ z ∈ C, ok40 z) (R : RightP M C) : Right M C := by
  have hb : ∀ i, bg (plC C) C.length i = true → i < C.length ∧ bgR (plC C) i = true := fun i h => by
    have hl := (bg_iff.1 h).1
    exact ⟨hl, by rw [← bg_C C hl]; exact h⟩
  refine ⟨R.pos, R.le, R.mle, R.maps, fun i h => R.alone i (hb i h).1 (hb i h).2, fun i h => (badJ_iff hC i).2 (R.jumps i (hb i h).1 (hb i h).2), fun p hp => ?_⟩
  have hm := (last_max 0 p hp).1
  have h := hb p.1 (bg_iff.2 ⟨p.2, hm⟩)
  exact R.last p.1 h.1 h.2 (last_nx hp)
theorem Check_iff {M : List S52} {C : List S40} (hC : ∀ z ∈ C, ok40 z) : ∃ v, shape_Check.f M C = some v ∧ (v.2 = 0 ↔ RightP M C) := by
  obtain ⟨v, hv⟩ := Check_some (M := M) hC
  refine ⟨v, hv, fun h => RightP.of hC (right_of hC hv h), fun R => ?_⟩
  rw [right_eq hC (R.to hC)] at hv
  obtain rfl := Option.some.inj hv
  rfl
theorem right_b {M : List S52} {C : List S40} (hC : ∀ z ∈ C, ok40 z) : ∃ b, stockadelaw04_right.f M C = some b ∧ (b = true ↔ RightP M C) := by
  obtain ⟨v, hv, hi⟩ := Check_iff (M := M) hC
  refine ⟨v.2 == 0, ?_, ?_⟩
  · unfold stockadelaw04_right.f; rw [hv]; rfl
  · rw [← hi]; simp
theorem Check_right {M : List S52} {C : List S40} (hC : ∀ z ∈ C, ok40 z) (R : RightP M C) : shape_Check.f M C = some (0, 0) := right_eq hC (R.to hC)
/-- An Exit. -/
def exI : S40 := ⟨149, 0, 0, 0, 0⟩
theorem ok_ex : ok40 exI := ⟨by decide, by decide, by decide, by decide, by decide⟩
theorem of_ex : ofx exI = (9, 0, 0, false, false, 0) := by decide +kernel
theorem pl_ex : plx exI = 1 := by decide +kernel
theorem exit_eq : stockadelaw04_exit.f = some (149, 0, 0, 0, 0) := rfl
theorem rdn_lt {C : List S40} {i : Nat} (h : i < C.length) : rdn C i = C[i] := by
  unfold rdn rd_T40
  rw [Int.toNat_natCast, List.getD_eq_getElem?_getD, List.getElem?_eq_getElem h]; rfl
theorem al_ex {M : List S52} {C : List S40} {i : Nat} (h : rdn C i = exI) : alE M C i = 0 := by
  unfold alE
  rw [h, of_ex]
  simp
/-- One map and an Exit. -/
theorem right_one {M : List S52} (h : M.length ≤ 4) : RightP M [exI] ↔ mapsBad M = none := by
  refine ⟨fun R => R.maps, fun hm => ⟨by simp, by simp, h, hm, fun i hi _ => ?_, fun i hi _ => ?_, fun i hi _ _ => ?_⟩⟩
  all_goals (have : i = 0 := by simpa using hi; ); all_goals subst this
  · exact al_ex (by rfl)
  · intro hc
    rw [show rdn [exI] 0 = exI from rfl, of_ex] at hc
    rcases hc with hc | hc <;> exact absurd hc (by decide)
  · rw [show rdn [exI] 0 = exI from rfl, of_ex]; exact .inr rfl
theorem mapsBad_app {M N : List S52} (h : mapsBad M = none) : mapsBad (M ++ N) = (mapsBad N).map (· + M.length) := by
  have hM : ∀ j, j < M.length → mayF (M ++ N) j = true := fun j hj => by
    have := List.find?_eq_none.1 h j (List.mem_range.2 hj)
    have e : mayF (M ++ N) j = mayF M j := by
      unfold mayF rd_T52
      rw [Int.toNat_natCast, List.getD_eq_getElem?_getD, List.getD_eq_getElem?_getD, List.getElem?_append_left hj]
    rw [e]; simpa using this
  have hN : ∀ j, mayF (M ++ N) (M.length + j) = mayF N j := fun j => by
    unfold mayF rd_T52
    rw [Int.toNat_natCast, Int.toNat_natCast, List.getD_eq_getElem?_getD, List.getD_eq_getElem?_getD, List.getElem?_append_right (by omega), Nat.add_sub_cancel_left]
  cases hn : mapsBad N with
  | none =>
    refine mapsBad_none fun j hj => ?_
    by_cases c : j < M.length
    · exact hM j c
    · obtain ⟨i, rfl⟩ : ∃ i, j = M.length + i := ⟨j - M.length, by omega⟩
      rw [hN]
      have := List.find?_eq_none.1 hn i (List.mem_range.2 (by simp at hj; omega))
      simpa using this
  | some i =>
    unfold mapsBad at hn
    rw [List.find?_range_eq_some] at hn
    obtain ⟨h1, h2, h3⟩ := hn
    rw [Option.map_some, Nat.add_comm]
    refine mapsBad_some (by simp at h2 ⊢; omega) (fun j hj => ?_) (by rw [hN]; simpa using h1)
    by_cases c : j < M.length
    · exact hM j c
    · obtain ⟨q, rfl⟩ : ∃ i, j = M.length + i := ⟨j - M.length, by omega⟩
      rw [hN]
      have := h3 q (by omega)
      simpa using this
end Go.Proofs.YtdhiibkcoolbeaaDoor.Pure

/- Chapter 04 (as in 02): what the document's Rows and Find come to, in plain terms. -/
namespace Go.Proofs.YtdhiibkcoolbeaaDoor.Pure
open Go.RowKit Go.Proofs.YtdhiibkcoolbeaaDoorW.PrintWords Go.Proofs.YtdhiibkcoolbeaaDoorW.PrintLast Go.Proofs.YtdhiibkcoolbeaaDoorW.PrintMore Go.Proofs.YtdhiibkcoolbeaaDoor.P
set_option linter.unusedVariables false
set_option linter.unusedSimpArgs false

theorem LeO.up {α : Type} {f : Nat → Option α} (h : ∀ k, LeO (f k) (f (k + 1))) {k : Nat} {r : α} (e : f k = some r) : ∀ j, f (k + j) = some r
  | 0 => e
  | j + 1 => h (k + j) r (LeO.up h e j)
def rowsL : List S68 := (stockaderef02_Rows.f 60).getD []
theorem rows_60 : stockaderef02_Rows.f 60 = some rowsL := by
  have h : (stockaderef02_Rows.f 60).isSome = true := by decide +kernel
  unfold rowsL
  obtain ⟨r, hr⟩ := Option.isSome_iff_exists.1 h
  rw [hr]; rfl
theorem rows_eq (k : Nat) : stockaderef02_Rows.f (k + 60) = some rowsL := by
  rw [Nat.add_comm]; exact LeO.up stockaderef02_Rows.mono rows_60 k
abbrev FT := Int × Int × Int × Int × Bool × Bool × Int × Int × Int × Int × Int
def tup (r : S68) : FT := (r.f0, r.f1.f0, r.f1.f1, r.f1.f2, r.f1.f3, r.f1.f4, r.f2, r.f3, r.f4, r.f5, r.f6)
/-- Does a row stand for an instruction with this Src and this Imm (the Op being its own)? -/
def hit (src imm : Int) (t : FT) : Bool := !(decide (t.2.2.2.2.2.2.2.1 = 4) && decide (src ≠ t.2.2.2.2.2.2.2.2.2.2)) && !(decide (t.2.2.2.2.2.2.2.2.2.1 = 4) && decide (imm ≠ t.2.2.2.2.2.2.2.2.2.2))
def yes (t : Option FT) : Int × Int × Int × Int × Bool × Bool × Int × Int × Int × Int × Int × Bool :=
  match t with
  | some (a, b, c, d, e, f, g, h, i, j, l) => (a, b, c, d, e, f, g, h, i, j, l, true)
  | none => (0, 0, 0, 0, false, false, 0, 0, 0, 0, 0, false)
theorem find_eq {op dst src off imm : Int} (s0 : 0 ≤ src) (s1 : src ≤ 255) (i0 : -2147483648 ≤ imm) (i1 : imm ≤ 2147483647) (l : List S68) (hl : l.length < 1000000) :
    ∀ (n : Nat) (i : Nat) (k : Nat), l.length - i = n → i ≤ l.length → n < k → stockaderef02_Find.l0 k l i op dst src off imm = some (yes (((l.drop i).map tup).find? fun t => decide (t.1 = op) && hit src imm t))
  | n, i, 0, _, _, hk => by omega
  | n, i, k + 1, hn, hi, hk => by
    have es : wrap64 src = src := fitW (by omega) (by omega)
    have ei : wrap64 imm = imm := fitW (by omega) (by omega)
    unfold stockaderef02_Find.l0
    by_cases c : i < l.length
    · have ew : wrap64 ((i : Int) + 1) = ((i + 1 : Nat) : Int) := by rw [fitW (by omega) (by omega)]; omega
      have ih := find_eq (op := op) (dst := dst) (off := off) s0 s1 i0 i1 l hl (n - 1) (i + 1) k (by omega) (by omega) (by omega)
      have hr : rd_T68 l (i : Int) = l[i] := by simp [rd_T68, List.getD_eq_getElem?_getD, List.getElem?_eq_getElem c]
      rw [if_pos (by omega : (i : Int) < (l.length : Int)), if_pos (by omega : (0 : Int) ≤ (i : Int)), ew, ih, hr, es, ei, List.drop_eq_getElem_cons c]
      generalize l[i] = r
      simp only [List.map_cons, List.find?_cons]
      by_cases h0 : r.f0 = op <;> by_cases h3 : r.f3 = 4 <;> by_cases h5 : r.f5 = 4 <;> by_cases h6 : src = r.f6 <;> by_cases h7 : imm = r.f6 <;> simp [h0, h3, h5, h6, h7, tup, hit, yes]
    · rw [if_neg (by omega), List.drop_eq_nil_of_le (by omega)]
      rfl
def rowsT : List FT := rowsL.map tup
def rowsOf (op : Int) : List FT :=
  if op % 8 = 4 ∨ op % 8 = 7 then
    if op = 215 then [(215, 2, 0, 2, false, false, 2, 0, 0, 4, 16), (215, 2, 0, 4, false, false, 2, 0, 0, 4, 32), (215, 2, 0, 8, false, false, 2, 0, 0, 4, 64)]
    else if op / 16 ≤ 12 ∧ ¬ (op / 16 = 8 ∧ op / 8 % 2 = 1) then
      [(op, 1, op / 16, 0, decide (op % 8 = 7), decide (op / 8 % 2 = 1), 2, (if op / 8 % 2 = 1 then 1 else 0), 0, (if op / 8 % 2 = 1 ∨ op / 16 = 8 then 0 else 3), 0)]
    else []
  else if op % 8 = 5 ∨ op % 8 = 6 then
    if condB (op / 16) = true then [(op, 6, op / 16, 0, decide (op % 8 = 5), decide (op / 8 % 2 = 1), 1, (if op / 8 % 2 = 1 then 1 else 0), 3, (if op / 8 % 2 = 1 then 0 else 3), 0)]
    else if op = 5 then [(5, 7, 0, 0, false, false, 0, 0, 3, 0, 0)] else if op = 133 then [(133, 8, 0, 0, false, false, 0, 0, 0, 3, 0)] else if op = 149 then [(149, 9, 0, 0, false, false, 0, 0, 0, 0, 0)] else []
  else if op % 8 = 0 then (if op = 24 then [(24, 10, 0, 0, false, false, 2, 4, 0, 3, 0), (24, 11, 0, 0, false, false, 2, 4, 0, 3, 1)] else [])
  else if op / 32 = 3 then
    (if op % 4 = 1 then [(op, 3, 0, sizeV (op / 8 % 4), false, false, 2, 1, 3, 0, 0)]
     else if op % 4 = 2 then [(op, 5, 0, sizeV (op / 8 % 4), false, false, 1, 0, 3, 3, 0)]
     else [(op, 4, 0, sizeV (op / 8 % 4), false, false, 1, 1, 3, 0, 0)])
  else []
instance ftEq : DecidableEq FT := by unfold FT; exact @instDecidableEqProd _ _ _ (@instDecidableEqProd _ _ _ (@instDecidableEqProd _ _ _ (@instDecidableEqProd _ _ _ (@instDecidableEqProd _ _ _ inferInstance))))
theorem rows_of_nat : ∀ n : Fin 256, rowsT.filter (fun t => decide (t.1 = (n.val : Int))) = rowsOf (n.val : Int) := by decide +kernel
theorem rows_of {op : Int} (h0 : 0 ≤ op) (h1 : op ≤ 255) : rowsT.filter (fun t => decide (t.1 = op)) = rowsOf op := by
  obtain ⟨n, rfl⟩ := Int.eq_ofNat_of_zero_le h0
  exact rows_of_nat ⟨n, by omega⟩
theorem find_filter {α : Type} (p q : α → Bool) : ∀ l : List α, l.find? (fun t => p t && q t) = (l.filter p).find? q
  | [] => rfl
  | x :: l => by

    rw [List.find?_cons, List.filter_cons]
    cases hp : p x
    · simp
    · cases hq : q x
      · simp [hq]
      · simp [hq]
theorem Find_eq {op dst src off imm : Int} (k : Nat) (h0 : 0 ≤ op) (h1 : op ≤ 255) (s0 : 0 ≤ src) (s1 : src ≤ 255) (i0 : -2147483648 ≤ imm) (i1 : imm ≤ 2147483647) :
    stockaderef02_Find.f (k + 200) op dst src off imm = some (yes ((rowsOf op).find? (hit src imm))) := by
  have hl : rowsL.length = 114 := by decide +kernel
  unfold stockaderef02_Find.f
  rw [show k + 200 = (k + 140) + 60 by omega, rows_eq, Option.bind_some]
  have := find_eq (op := op) (dst := dst) (off := off) s0 s1 i0 i1 rowsL (by omega) 114 0 (k + 140 + 60) (by omega) (by omega) (by omega)
  rw [show ((0 : Nat) : Int) = 0 from rfl] at this
  rw [this, List.drop_zero, find_filter (fun t : FT => decide (t.1 = op)) (hit src imm), ← rowsT, rows_of h0 h1]
end Go.Proofs.YtdhiibkcoolbeaaDoor.Pure

/- Chapter 04 (as in 02): the document's Of answers as the program's. -/
namespace Go.Proofs.YtdhiibkcoolbeaaDoor.Pure
open Go.RowKit Go.Proofs.YtdhiibkcoolbeaaDoorW.PrintWords Go.Proofs.YtdhiibkcoolbeaaDoorW.PrintLast Go.Proofs.YtdhiibkcoolbeaaDoorW.PrintMore Go.Proofs.YtdhiibkcoolbeaaDoor.P
set_option linter.unusedVariables false
set_option linter.unusedSimpArgs false

def wrongB (u n : Int) : Bool := decide (u = 1 ∧ n > 10 ∨ u = 2 ∧ n > 9)
theorem wrong_eq (u n : Int) : stockaderef02_wrong.f u n = some (wrongB u n) := by
  unfold stockaderef02_wrong.f wrongB
  by_cases h1 : u = 1
  · subst h1; by_cases h : n > 10 <;> simp [h]
  · by_cases h2 : u = 2 <;> simp [h1, h2]
def refV (t : Option FT) (dst src off imm : Int) : Int × Int × Int × Bool × Bool × Int :=
  match t with
  | none => (0, 0, 0, false, false, 20)
  | some (_, a, b, c, d, e, D, S, O, I, _) =>
    if wrongB D dst = true ∨ wrongB S src = true then (0, 0, 0, false, false, 21)
    else if D = 0 ∧ dst ≠ 0 ∨ S = 0 ∧ src ≠ 0 ∨ O = 0 ∧ off ≠ 0 ∨ I = 0 ∧ imm ≠ 0 then (0, 0, 0, false, false, 22)
    else (a, b, c, d, e, 0)
theorem refOf_eq' {op dst src off imm : Int} (k : Nat) (h0 : 0 ≤ op) (h1 : op ≤ 255) (s0 : 0 ≤ src) (s1 : src ≤ 255) (i0 : -2147483648 ≤ imm) (i1 : imm ≤ 2147483647) :
    stockaderef02_Of.f (k + 200) op dst src off imm = some (refV ((rowsOf op).find? (hit src imm)) dst src off imm) := by
  unfold stockaderef02_Of.f
  rw [Find_eq k h0 h1 s0 s1 i0 i1]
  cases (rowsOf op).find? (hit src imm) with
  | none => simp [yes, refV]
  | some t =>
    obtain ⟨_, a, b, c, d, e, D, S, O, I, _⟩ := t
    rw [show k + 200 = (k + 199) + 1 from rfl]
    simp only [yes, Option.bind_some, wrong_eq, if_true, stockaderef02_Of.j0, refV]
    cases hD : wrongB D dst <;> cases hS : wrongB S src <;> simp only [if_true, if_false, Bool.false_eq_true, true_or, or_true, or_self]
    clear hD hS
    by_cases a1 : D = 0 <;> by_cases a2 : S = 0 <;> by_cases a3 : O = 0 <;> by_cases a4 : I = 0 <;> by_cases b1 : dst = 0 <;> by_cases b2 : src = 0 <;> by_cases b3 : off = 0 <;> by_cases b4 : imm = 0 <;> simp [a1, a2, a3, a4, b1, b2, b3, b4]
theorem w_1 (n : Int) : wrongB 1 n = decide (n > 10) := by simp [wrongB]
theorem w_2 (n : Int) : wrongB 2 n = decide (n > 9) := by simp [wrongB]
theorem w_0 (n : Int) : wrongB 0 n = false := by simp [wrongB]
theorem w_4 (n : Int) : wrongB 4 n = false := by simp [wrongB]
/-- One row is there, and it is hit. -/
theorem ref_one {op dst src off imm : Int} {a b c : Int} {d e : Bool} {o D S O I z : Int} {f1 f2 f3 f4 f5 : Bool} (h1 : (rowsOf op).find? (hit src imm) = some (o, a, b, c, d, e, D, S, O, I, z)) (hk : kindV op src imm = (a, b, c, d, e)) (ha : a ≠ 0)
    (hf : fieldsV (a, b, c, d, e) = (f1, f2, f3, f4, f5)) (hw : (f1 = true ∧ dst > 10 ∨ f2 = true ∧ dst = 10 ∨ f3 = true ∧ src > 10) ↔ (wrongB D dst = true ∨ wrongB S src = true))
    (hz : (f1 = false ∧ dst ≠ 0 ∨ f3 = false ∧ src ≠ 0 ∧ a ≠ 11 ∨ f4 = false ∧ off ≠ 0 ∨ f5 = false ∧ imm ≠ 0) ↔ (D = 0 ∧ dst ≠ 0 ∨ S = 0 ∧ src ≠ 0 ∨ O = 0 ∧ off ≠ 0 ∨ I = 0 ∧ imm ≠ 0)) :
    refV ((rowsOf op).find? (hit src imm)) dst src off imm = ofV op dst src off imm := by
  rw [h1]
  unfold ofV
  simp only [hk, hf, refV, if_neg ha]
  by_cases hW : wrongB D dst = true ∨ wrongB S src = true
  · rw [if_pos hW, if_pos (hw.2 hW)]
  · rw [if_neg hW, if_neg (fun h => hW (hw.1 h))]
    by_cases hZ : D = 0 ∧ dst ≠ 0 ∨ S = 0 ∧ src ≠ 0 ∨ O = 0 ∧ off ≠ 0 ∨ I = 0 ∧ imm ≠ 0
    · rw [if_pos hZ, if_pos (hz.2 hZ)]
    · rw [if_neg hZ, if_neg (fun h => hZ (hz.1 h))]
theorem ref_hd {op dst src off imm : Int} {a b c : Int} {d e : Bool} {o D S O I z : Int} {f1 f2 f3 f4 f5 : Bool} {l : List FT} (hr : rowsOf op = (o, a, b, c, d, e, D, S, O, I, z) :: l) (hh : hit src imm (o, a, b, c, d, e, D, S, O, I, z) = true) (hk : kindV op src imm = (a, b, c, d, e)) (ha : a ≠ 0)
    (hf : fieldsV (a, b, c, d, e) = (f1, f2, f3, f4, f5)) (hw : (f1 = true ∧ dst > 10 ∨ f2 = true ∧ dst = 10 ∨ f3 = true ∧ src > 10) ↔ (wrongB D dst = true ∨ wrongB S src = true))
    (hz : (f1 = false ∧ dst ≠ 0 ∨ f3 = false ∧ src ≠ 0 ∧ a ≠ 11 ∨ f4 = false ∧ off ≠ 0 ∨ f5 = false ∧ imm ≠ 0) ↔ (D = 0 ∧ dst ≠ 0 ∨ S = 0 ∧ src ≠ 0 ∨ O = 0 ∧ off ≠ 0 ∨ I = 0 ∧ imm ≠ 0)) :
    refV ((rowsOf op).find? (hit src imm)) dst src off imm = ofV op dst src off imm :=
  ref_one (by rw [hr, List.find?_cons, hh]) hk ha hf hw hz
theorem ref_2nd {op dst src off imm : Int} {a b c : Int} {d e : Bool} {o D S O I z : Int} {f1 f2 f3 f4 f5 : Bool} {x : FT} {l : List FT} (hr : rowsOf op = x :: (o, a, b, c, d, e, D, S, O, I, z) :: l) (h1 : hit src imm x = false) (hh : hit src imm (o, a, b, c, d, e, D, S, O, I, z) = true) (hk : kindV op src imm = (a, b, c, d, e)) (ha : a ≠ 0)
    (hf : fieldsV (a, b, c, d, e) = (f1, f2, f3, f4, f5)) (hw : (f1 = true ∧ dst > 10 ∨ f2 = true ∧ dst = 10 ∨ f3 = true ∧ src > 10) ↔ (wrongB D dst = true ∨ wrongB S src = true))
    (hz : (f1 = false ∧ dst ≠ 0 ∨ f3 = false ∧ src ≠ 0 ∧ a ≠ 11 ∨ f4 = false ∧ off ≠ 0 ∨ f5 = false ∧ imm ≠ 0) ↔ (D = 0 ∧ dst ≠ 0 ∨ S = 0 ∧ src ≠ 0 ∨ O = 0 ∧ off ≠ 0 ∨ I = 0 ∧ imm ≠ 0)) :
    refV ((rowsOf op).find? (hit src imm)) dst src off imm = ofV op dst src off imm :=
  ref_one (by rw [hr, List.find?_cons, h1, List.find?_cons, hh]) hk ha hf hw hz
theorem ref_3rd {op dst src off imm : Int} {a b c : Int} {d e : Bool} {o D S O I z : Int} {f1 f2 f3 f4 f5 : Bool} {x y : FT} {l : List FT} (hr : rowsOf op = x :: y :: (o, a, b, c, d, e, D, S, O, I, z) :: l) (h1 : hit src imm x = false) (h2 : hit src imm y = false) (hh : hit src imm (o, a, b, c, d, e, D, S, O, I, z) = true) (hk : kindV op src imm = (a, b, c, d, e)) (ha : a ≠ 0)
    (hf : fieldsV (a, b, c, d, e) = (f1, f2, f3, f4, f5)) (hw : (f1 = true ∧ dst > 10 ∨ f2 = true ∧ dst = 10 ∨ f3 = true ∧ src > 10) ↔ (wrongB D dst = true ∨ wrongB S src = true))
    (hz : (f1 = false ∧ dst ≠ 0 ∨ f3 = false ∧ src ≠ 0 ∧ a ≠ 11 ∨ f4 = false ∧ off ≠ 0 ∨ f5 = false ∧ imm ≠ 0) ↔ (D = 0 ∧ dst ≠ 0 ∨ S = 0 ∧ src ≠ 0 ∨ O = 0 ∧ off ≠ 0 ∨ I = 0 ∧ imm ≠ 0)) :
    refV ((rowsOf op).find? (hit src imm)) dst src off imm = ofV op dst src off imm :=
  ref_one (by rw [hr, List.find?_cons, h1, List.find?_cons, h2, List.find?_cons, hh]) hk ha hf hw hz
/-- None is there, or none is hit. -/
theorem ref_none {op dst src off imm : Int} (h1 : (rowsOf op).find? (hit src imm) = none) (hk : kindV op src imm = zeroV) :
    refV ((rowsOf op).find? (hit src imm)) dst src off imm = ofV op dst src off imm := by
  rw [h1]
  unfold ofV
  simp only [hk, zeroV, refV, if_true]
theorem ref_of {op dst src off imm : Int} (h0 : 0 ≤ op) (h1 : op ≤ 255) (s0 : 0 ≤ src) (s1 : src ≤ 255) (d0 : 0 ≤ dst) :
    refV ((rowsOf op).find? (hit src imm)) dst src off imm = ofV op dst src off imm := by
  by_cases c1 : op % 8 = 4 ∨ op % 8 = 7
  · by_cases c2 : op = 215
    · subst c2
      have hr : rowsOf 215 = [(215, 2, 0, 2, false, false, 2, 0, 0, 4, 16), (215, 2, 0, 4, false, false, 2, 0, 0, 4, 32), (215, 2, 0, 8, false, false, 2, 0, 0, 4, 64)] := by decide +kernel
      by_cases e1 : imm = 16
      · subst e1
        exact ref_hd hr (by simp [hit]) (show _ = ((2 : Int), (0 : Int), _, false, false) by simp [kindV]) (by decide) rfl (by simp [w_0, w_2]; omega) (by simp)
      by_cases e2 : imm = 32
      · subst e2
        exact ref_2nd hr (by simp [hit]) (by simp [hit]) (show _ = ((2 : Int), (0 : Int), _, false, false) by simp [kindV]) (by decide) rfl (by simp [w_0, w_2]; omega) (by simp)
      by_cases e3 : imm = 64
      · subst e3
        exact ref_3rd hr (by simp [hit]) (by simp [hit]) (by simp [hit]) (show _ = ((2 : Int), (0 : Int), _, false, false) by simp [kindV]) (by decide) rfl (by simp [w_0, w_2]; omega) (by simp)
      exact ref_none (by rw [hr]; simp [hit, e1, e2, e3]) (by simp [kindV, e1, e2, e3])
    · by_cases c3 : op / 16 ≤ 12 ∧ ¬ (op / 16 = 8 ∧ op / 8 % 2 = 1)
      · have hk : kindV op src imm = (1, op / 16, 0, decide (op % 8 = 7), decide (op / 8 % 2 = 1)) := by
          unfold kindV; rw [if_pos c1, if_neg (fun h => c2 h.1), if_pos c3]
        have hr : rowsOf op = [(op, 1, op / 16, 0, decide (op % 8 = 7), decide (op / 8 % 2 = 1), 2, (if op / 8 % 2 = 1 then 1 else 0), 0, (if op / 8 % 2 = 1 ∨ op / 16 = 8 then 0 else 3), 0)] := by
          unfold rowsOf; rw [if_pos c1, if_neg c2, if_pos c3]
        by_cases hg : op / 8 % 2 = 1
        · simp only [hg, if_true, true_or, decide_true] at hk hr
          exact ref_hd hr (by simp [hit]) hk (by decide) rfl (by simp [w_1, w_2]; omega) (by simp)
        · by_cases h8 : op / 16 = 8
          · simp only [hg, h8, if_true, if_false, or_true, decide_false] at hk hr
            exact ref_hd hr (by simp [hit]) hk (by decide) rfl (by simp [w_0, w_2]; omega) (by simp)
          · simp only [hg, h8, if_false, or_self, decide_false] at hk hr
            exact ref_hd (f1 := true) (f2 := true) (f3 := false) (f4 := false) (f5 := true) hr (by simp [hit]) hk (by decide) (by simp [fieldsV, h8]) (by simp [w_0, w_2]; omega) (by simp)
      · exact ref_none (by unfold rowsOf; rw [if_pos c1, if_neg c2, if_neg c3]; rfl) (by unfold kindV; rw [if_pos c1, if_neg (fun h => c2 h.1), if_neg c3])
  by_cases c2 : op % 8 = 5 ∨ op % 8 = 6
  · by_cases c3 : condB (op / 16) = true
    · have hk : kindV op src imm = (6, op / 16, 0, decide (op % 8 = 5), decide (op / 8 % 2 = 1)) := by
        unfold kindV jumpV; rw [if_neg c1, if_pos c2, if_pos c3]
      have hr : rowsOf op = [(op, 6, op / 16, 0, decide (op % 8 = 5), decide (op / 8 % 2 = 1), 1, (if op / 8 % 2 = 1 then 1 else 0), 3, (if op / 8 % 2 = 1 then 0 else 3), 0)] := by
        unfold rowsOf; rw [if_neg c1, if_pos c2, if_pos c3]
      by_cases hg : op / 8 % 2 = 1
      · simp only [hg, if_true, decide_true] at hk hr
        exact ref_hd hr (by simp [hit]) hk (by decide) rfl (by simp [w_1]) (by simp)
      · simp only [hg, if_false, decide_false] at hk hr
        exact ref_hd hr (by simp [hit]) hk (by decide) rfl (by simp [w_1, w_0]) (by simp)
    · have hkk : kindV op src imm = (if op = 5 then (7, 0, 0, false, false) else if op = 133 then (8, 0, 0, false, false) else if op = 149 then (9, 0, 0, false, false) else zeroV) := by
        unfold kindV jumpV; rw [if_neg c1, if_pos c2, if_neg c3]
      have hrr : rowsOf op = (if op = 5 then [(5, 7, 0, 0, false, false, 0, 0, 3, 0, 0)] else if op = 133 then [(133, 8, 0, 0, false, false, 0, 0, 0, 3, 0)] else if op = 149 then [(149, 9, 0, 0, false, false, 0, 0, 0, 0, 0)] else []) := by
        unfold rowsOf; rw [if_neg c1, if_pos c2, if_neg c3]
      by_cases e1 : op = 5
      · rw [if_pos e1] at hkk hrr
        exact ref_hd hrr (by simp [hit]) hkk (by decide) rfl (by simp [w_0]) (by simp)
      by_cases e2 : op = 133
      · rw [if_neg e1, if_pos e2] at hkk hrr
        exact ref_hd hrr (by simp [hit]) hkk (by decide) rfl (by simp [w_0]) (by simp)
      by_cases e3 : op = 149
      · rw [if_neg e1, if_neg e2, if_pos e3] at hkk hrr
        exact ref_hd hrr (by simp [hit]) hkk (by decide) rfl (by simp [w_0]) (by simp)
      rw [if_neg e1, if_neg e2, if_neg e3] at hkk hrr
      exact ref_none (by rw [hrr]; rfl) hkk
  by_cases c3 : op % 8 = 0
  · by_cases c4 : op = 24
    · have hrr : rowsOf op = [(24, 10, 0, 0, false, false, 2, 4, 0, 3, 0), (24, 11, 0, 0, false, false, 2, 4, 0, 3, 1)] := by
        unfold rowsOf; rw [if_neg c1, if_neg c2, if_pos c3, if_pos c4]
      by_cases e0 : src = 0
      · have hk : kindV op src imm = (10, 0, 0, false, false) := by unfold kindV; rw [if_neg c1, if_neg c2, if_pos c3, if_pos ⟨c4, by omega⟩, e0]; rfl
        exact ref_hd hrr (by simp [hit, e0]) hk (by decide) rfl (by simp [w_2, w_4]; omega) (by simp [e0])
      by_cases e1 : src = 1
      · have hk : kindV op src imm = (11, 0, 0, false, false) := by unfold kindV; rw [if_neg c1, if_neg c2, if_pos c3, if_pos ⟨c4, by omega⟩, e1]; rfl
        exact ref_2nd hrr (by simp [hit, e1]) (by simp [hit, e1]) hk (by decide) rfl (by simp [w_2, w_4]; omega) (by simp)
      exact ref_none (by rw [hrr]; simp [hit, e0, e1]) (by unfold kindV; rw [if_neg c1, if_neg c2, if_pos c3, if_neg (by omega)])
    · exact ref_none (by unfold rowsOf; rw [if_neg c1, if_neg c2, if_pos c3, if_neg c4]; rfl) (by unfold kindV; rw [if_neg c1, if_neg c2, if_pos c3, if_neg (fun h => c4 h.1)])
  by_cases c4 : op / 32 = 3
  · have hkk : kindV op src imm = (classV (op % 4), 0, sizeV (op / 8 % 4), false, false) := by
      unfold kindV; rw [if_neg c1, if_neg c2, if_neg c3, if_pos c4]
    have hrr : rowsOf op = (if op % 4 = 1 then [(op, 3, 0, sizeV (op / 8 % 4), false, false, 2, 1, 3, 0, 0)] else if op % 4 = 2 then [(op, 5, 0, sizeV (op / 8 % 4), false, false, 1, 0, 3, 3, 0)] else [(op, 4, 0, sizeV (op / 8 % 4), false, false, 1, 1, 3, 0, 0)]) := by
      unfold rowsOf; rw [if_neg c1, if_neg c2, if_neg c3, if_pos c4]
    unfold classV at hkk
    by_cases e1 : op % 4 = 1
    · rw [if_pos e1] at hkk hrr
      exact ref_hd hrr (by simp [hit]) hkk (by decide) rfl (by simp [w_1, w_2]; omega) (by simp)
    by_cases e2 : op % 4 = 2
    · rw [if_neg e1, if_pos e2] at hkk hrr
      exact ref_hd hrr (by simp [hit]) hkk (by decide) rfl (by simp [w_1, w_0]) (by simp)
    rw [if_neg e1, if_neg e2] at hkk hrr
    exact ref_hd hrr (by simp [hit]) hkk (by decide) rfl (by simp [w_1]) (by simp)
  · exact ref_none (by unfold rowsOf; rw [if_neg c1, if_neg c2, if_neg c3, if_neg c4]; rfl) (by unfold kindV; rw [if_neg c1, if_neg c2, if_neg c3, if_neg c4])
theorem refOf_eq {op dst src off imm : Int} (k : Nat) (h0 : 0 ≤ op) (h1 : op ≤ 255) (d0 : 0 ≤ dst) (s0 : 0 ≤ src) (s1 : src ≤ 255) (i0 : -2147483648 ≤ imm) (i1 : imm ≤ 2147483647) :
    stockaderef02_Of.f (k + 200) op dst src off imm = some (ofV op dst src off imm) := by
  rw [refOf_eq' k h0 h1 s0 s1 i0 i1, ref_of h0 h1 s0 s1 d0]
theorem refPlaces_eq {op dst src off imm : Int} (k : Nat) (h0 : 0 ≤ op) (h1 : op ≤ 255) (d0 : 0 ≤ dst) (s0 : 0 ≤ src) (s1 : src ≤ 255) (i0 : -2147483648 ≤ imm) (i1 : imm ≤ 2147483647) :
    stockaderef02_Places.f (k + 200) op dst src off imm = some (if (ofV op dst src off imm).2.2.2.2.2 = 0 then placesV (kindV op src imm) else 0) := by
  unfold stockaderef02_Places.f
  rw [refOf_eq k h0 h1 d0 s0 s1 i0 i1, Option.bind_some]
  by_cases he : (ofV op dst src off imm).2.2.2.2.2 = 0
  · rw [if_pos he, if_pos he, (of_ok he).1]
    unfold kOf placesV
    dsimp only
    by_cases c1 : (kindV op src imm).1 = 10 <;> by_cases c2 : (kindV op src imm).1 = 11 <;> simp [c1, c2]
  · rw [if_neg he, if_neg he]
end Go.Proofs.YtdhiibkcoolbeaaDoor.Pure

/- Chapter 04: the document's Starts comes to the same list. -/
namespace Go.Proofs.YtdhiibkcoolbeaaDoor.Pure
open Go.RowKit Go.Proofs.YtdhiibkcoolbeaaDoorW.PrintWords Go.Proofs.YtdhiibkcoolbeaaDoorW.PrintLast Go.Proofs.YtdhiibkcoolbeaaDoorW.PrintMore Go.Proofs.YtdhiibkcoolbeaaDoor.P Go.Proofs.YtdhiibkcoolbeaaDoor.Opening
set_option linter.unusedVariables false
set_option linter.unusedSimpArgs false

def stL (C : List S40) (i : Nat) : List Bool := (List.range i).map fun j => bg (plC C) C.length j
theorem stL_len (C : List S40) (i : Nat) : (stL C i).length = i := by simp [stL]
theorem stL_succ (C : List S40) (i : Nat) : stL C (i + 1) = stL C i ++ [bg (plC C) C.length i] := by simp [stL, List.range_succ]
theorem stL_all (C : List S40) : stL C C.length = stC C := by
  apply List.ext_getElem?
  intro j
  by_cases hj : j < C.length
  · have h1 : (stC C).getD j false = bg (plC C) C.length j := by
      have := stC_get C (i := (j : Int)) (by omega)
      rw [Int.toNat_natCast] at this
      rw [← this]; rfl
    have hl : j < (stC C).length := by rw [stC_len]; exact hj
    rw [List.getD_eq_getElem?_getD, List.getElem?_eq_getElem hl, Option.getD_some] at h1
    rw [List.getElem?_eq_getElem hl, h1]
    simp [stL, hj]
  · rw [List.getElem?_eq_none (by rw [stL_len]; omega), List.getElem?_eq_none (by rw [stC_len]; omega)]
theorem refPl_at {x : S40} (h : ok40 x) (k : Nat) : stockaderef02_Places.f (k + 200) x.f0 x.f1 x.f2 x.f3 x.f4 = some (plx x) := by
  obtain ⟨⟨h0, h1⟩, ⟨d0, _⟩, ⟨s0, s1⟩, _, ⟨i0, i1⟩⟩ := ok40_open h
  exact refPlaces_eq k h0 h1 d0 s0 s1 i0 i1
theorem refOf_at {x : S40} (h : ok40 x) (k : Nat) : stockaderef02_Of.f (k + 200) x.f0 x.f1 x.f2 x.f3 x.f4 = some (ofx x) := by
  obtain ⟨⟨h0, h1⟩, ⟨d0, _⟩, ⟨s0, s1⟩, _, ⟨i0, i1⟩⟩ := ok40_open h
  exact refOf_eq k h0 h1 d0 s0 s1 i0 i1
theorem refStarts_l0 {C : List S40} (h : ∀ z ∈ C, ok40 z) (hl : C.length < 140737488355328) : ∀ (m i k : Nat) (b : Bool), C.length - i = m → i ≤ C.length → (i < C.length → b = !(bg (plC C) C.length i)) →
    stockaderef04_Starts.l0 (m + 201 + k) C (stL C i) b (i : Int) = some (stC C)
  | 0, i, k, b, hm, hi, hb => by
    rw [show 0 + 201 + k = (200 + k) + 1 by omega]
    unfold stockaderef04_Starts.l0
    rw [if_neg (by omega), show i = C.length by omega, stL_all]
  | m + 1, i, k, b, hm, hi, hb => by
    have hil : i < C.length := by omega
    obtain rfl := hb hil
    have hw : wrap64 ((i : Int) + 1) = ((i + 1 : Nat) : Int) := by rw [fitW (by omega) (by omega)]; rfl
    have ih := fun b => refStarts_l0 h hl m (i + 1) k b (by omega) (by omega)
    rw [show m + 1 + 201 + k = (m + 201 + k) + 1 by omega]
    unfold stockaderef04_Starts.l0
    rw [if_pos (by omega), if_pos (by rw [stL_len]; omega), Option.bind_some, hw]
    have he : ([!(!(bg (plC C) C.length i))] : List Bool) = [bg (plC C) C.length i] := by simp
    rw [he, ← stL_succ]
    cases hbi : bg (plC C) C.length i with
    | false =>
      rw [if_pos (by rfl)]
      exact ih false (fun hlt => by rw [bg_after (nxC C) hlt hbi]; rfl)
    | true =>
      rw [if_neg (by simp), if_pos (by omega)]
      have hp := refPl_at (ok_rd h (i : Int)) (m + 1 + k)
      rw [show m + 1 + k + 200 = m + 201 + k by omega] at hp
      rw [hp, Option.bind_some]
      refine ih _ (fun hlt => ?_)
      have e2 := nxC_two C i
      rcases nxC C i with e | e
      · rw [bg_one hbi e hlt]
        have : ¬ plx (rd_T40 C (i : Int)) = 2 := fun h2 => by have := e2.2 h2; omega
        simpa using this
      · rw [bg_mid hbi e]
        have : plx (rd_T40 C (i : Int)) = 2 := e2.1 e
        simpa using this
theorem refStarts_eq {C : List S40} (h : ∀ z ∈ C, ok40 z) (hl : C.length < 140737488355328) (k : Nat) : stockaderef04_Starts.f (C.length + 201 + k) C = some (stC C) := by
  unfold stockaderef04_Starts.f
  refine refStarts_l0 h hl C.length 0 k false (by omega) (by omega) (fun h0 => by rw [bg_zero h0]; rfl)
theorem refHelper_eq (n : Int) : stockaderef04_Helper.f n = some (helpB n) := by
  unfold stockaderef04_Helper.f helpB
  repeat' split
  all_goals first | (simp_all; done) | (simp_all; rfl)
end Go.Proofs.YtdhiibkcoolbeaaDoor.Pure

/- Chapter 04: awake answers true (reckoned). -/
namespace Go.Proofs.YtdhiibkcoolbeaaDoor.Pure
open Go.RowKit Go.Proofs.YtdhiibkcoolbeaaDoorW.PrintWords Go.Proofs.YtdhiibkcoolbeaaDoorW.PrintLast Go.Proofs.YtdhiibkcoolbeaaDoorW.PrintMore Go.Proofs.YtdhiibkcoolbeaaDoor.P
set_option linter.unusedVariables false

set_option maxRecDepth 100000 in
theorem awake_eq : stockadelaw04_awake.f = some true := by decide +kernel
end Go.Proofs.YtdhiibkcoolbeaaDoor.Pure

/- Chapter 04: the law ShapeChecks: what is wrong with an image, and where, is the document's; the image stays as it was. -/
namespace Go.Proofs.YtdhiibkcoolbeaaDoor.Pure
open Go.RowKit Go.Proofs.YtdhiibkcoolbeaaDoorW.PrintWords Go.Proofs.YtdhiibkcoolbeaaDoorW.PrintLast Go.Proofs.YtdhiibkcoolbeaaDoorW.PrintMore Go.Proofs.YtdhiibkcoolbeaaDoor.P Go.Proofs.YtdhiibkcoolbeaaDoor.Opening
set_option linter.unusedVariables false
set_option linter.unusedSimpArgs false

section
variable {M : List S52} {C : List S40}
theorem refMay_eq (M : List S52) (i : Nat) : stockaderef04_May.f (rd_T52 M i).f0 (rd_T52 M i).f1 (rd_T52 M i).f2 (rd_T52 M i).f3 = some (mayF M i) := by
  unfold mayF stockaderef04_May.f shape_may.f
  repeat' split
  all_goals first | rfl | (simp_all; done) | (simp_all; omega) | grind
set_option maxHeartbeats 1000000 in
theorem refAlone_eq (hC : ∀ z ∈ C, ok40 z) (hl : C.length ≤ 512) (k i : Nat) (hi : i < C.length) : stockaderef04_Alone.f (k + 203) M C (i : Int) = some (alE M C i) := by
  have hw : wrap64 ((i : Int) + 1) = ((i + 1 : Nat) : Int) := by rw [fitW (by omega) (by omega)]; rfl
  obtain ⟨_, _, _, _, ⟨i0, i1⟩⟩ := ok40_open (ok_rd hC (i : Int))
  have hw4 : wrap64 (rd_T40 C (i : Int)).f4 = (rd_T40 C (i : Int)).f4 := fitW (by omega) (by omega)
  unfold stockaderef04_Alone.f
  rw [if_pos (by omega), if_pos (by omega), refOf_at (ok_rd hC _) (k + 3), Option.bind_some]
  unfold alE
  have er : rdn C i = rd_T40 C (i : Int) := rfl
  have er1 : rdn C (i + 1) = rd_T40 C ((i + 1 : Nat) : Int) := rfl
  rw [er, er1]
  dsimp only
  generalize ofx (rd_T40 C (i : Int)) = g
  obtain ⟨g1, g2, g3, g4, g5, g6⟩ := g
  dsimp only
  by_cases c6 : g6 = 0
  · rw [if_pos c6]
    subst c6
    have j2n : ∀ b (a0 a1 a2 a3 a4 c0 c1 c2 : Int) (d e : Bool), stockaderef04_Alone.j2 (k + 201) b a0 a1 a2 a3 a4 c0 c1 c2 d e = if b = true then some 26 else if c0 = 8 then (if helpB a4 = true then some 0 else some 27) else some 0 := by
      intros; rw [stockaderef04_Alone.j2]; simp only [refHelper_eq, Option.bind_some]
    have j1n : ∀ b (a0 a1 a2 a3 a4 c0 c1 c2 : Int) (d e : Bool), stockaderef04_Alone.j1 (k + 202) b M C a0 a1 a2 a3 a4 c0 c1 c2 d e = if b = true then some 23 else if c0 = 11 then (if wrap64 a4 < 0 then stockaderef04_Alone.j2 (k + 201) true a0 a1 a2 a3 a4 c0 c1 c2 d e else stockaderef04_Alone.j2 (k + 201) (decide (wrap64 a4 ≥ (M.length : Int))) a0 a1 a2 a3 a4 c0 c1 c2 d e) else stockaderef04_Alone.j2 (k + 201) false a0 a1 a2 a3 a4 c0 c1 c2 d e := by
      intros; rw [stockaderef04_Alone.j1]
    rw [show k + 203 = (k + 202) + 1 by omega]
    unfold stockaderef04_Alone.j0
    simp only [j1n, j2n, refHelper_eq, hw, hw4, Option.bind_some]
    have e1 : (((i + 1 : Nat) : Int) ≥ (C.length : Int)) ↔ i + 1 = C.length := by omega
    have e2 : (0 : Int) ≤ ((i + 1 : Nat) : Int) := by omega
    simp only [e1, if_pos e2]
    generalize rd_T40 C ((i + 1 : Nat) : Int) = s at *
    generalize rd_T40 C (i : Int) = r at *
    by_cases c10 : g1 = 10
    · subst c10
      by_cases ce : i + 1 = C.length
      · simp [ce]
      · have e3 : ((i + 1 : Nat) : Int) < (C.length : Int) := by omega
        simp only [ce, e3, if_true, if_false, ne_eq, not_true_eq_false, true_or, show ¬ ((10 : Int) = 11) by decide, false_and, or_false]
        by_cases a0 : s.f0 = 0 <;> by_cases a1 : s.f1 = 0 <;> by_cases a2 : s.f2 = 0 <;> by_cases a3 : s.f3 = 0 <;> simp [a0, a1, a2, a3]
    · rw [if_neg c10]
      by_cases c11 : g1 = 11
      · subst c11
        by_cases ce : i + 1 = C.length
        · simp [ce]
        · have e3 : ((i + 1 : Nat) : Int) < (C.length : Int) := by omega
          simp only [ce, e3, if_true, if_false, ne_eq, not_true_eq_false, or_true, true_and, show ¬ ((11 : Int) = 10) by decide, show ((11 : Int) == 11) = true by decide]
          by_cases a0 : s.f0 = 0 <;> by_cases a1 : s.f1 = 0 <;> by_cases a2 : s.f2 = 0 <;> by_cases a3 : s.f3 = 0 <;> by_cases a4 : s.f4 = 0 <;> simp [a0, a1, a2, a3, a4]
          by_cases b0 : r.f4 < 0 <;> by_cases b1 : (M.length : Int) ≤ r.f4 <;> simp [b0, b1]
      · have c11' : (g1 == 11) = false := by simpa using c11
        simp only [c11', Bool.false_eq_true, if_false, c10, c11, or_self, ne_eq, not_true_eq_false]
        by_cases c8 : g1 = 8
        · subst c8
          unfold helpB
          simp only [if_true, Option.bind_some, true_and, decide_eq_true_eq]
          split <;> simp_all
        · simp [c8]
  · rw [if_neg c6]; simp [c6]
theorem rc_l0_bad (n : Int) {x : Nat} (hx : x < M.length) (hm : mayF M x = false) (hp : ∀ j, j < x → mayF M j = true) (hl : M.length ≤ 4) : ∀ (m i k : Nat), x - i = m → i ≤ x → stockaderef04_Check.l0 (m + 1 + k) n (i : Int) M C = some ((x : Int), 26)
  | 0, i, k, h, hi => by
    obtain rfl : i = x := by omega
    rw [show 0 + 1 + k = k + 1 by omega]
    unfold stockaderef04_Check.l0
    rw [if_pos (by omega), if_pos (by omega), refMay_eq, hm, Option.bind_some, if_neg (by simp)]
  | m + 1, i, k, h, hi => by
    have hw : wrap64 ((i : Int) + 1) = ((i + 1 : Nat) : Int) := by rw [fitW (by omega) (by omega)]; rfl
    rw [show m + 1 + 1 + k = (m + 1 + k) + 1 by omega]
    unfold stockaderef04_Check.l0
    rw [if_pos (by omega), if_pos (by omega), refMay_eq, hp i (by omega), Option.bind_some, if_pos rfl, hw]
    exact rc_l0_bad n hx hm hp hl m (i + 1) k (by omega) (by omega)
theorem rc_l0_ok (n : Int) (hp : ∀ j, j < M.length → mayF M j = true) (hl : M.length ≤ 4) : ∀ (m i k : Nat), M.length - i = m → i ≤ M.length → stockaderef04_Check.l0 (m + 1 + k) n (i : Int) M C = (stockaderef04_Starts.f k C).bind fun t => stockaderef04_Check.l1 k n t 0 0 M C
  | 0, i, k, h, hi => by
    rw [show 0 + 1 + k = k + 1 by omega]
    rw [stockaderef04_Check.l0]
    rw [if_neg (by omega)]
  | m + 1, i, k, h, hi => by
    have hw : wrap64 ((i : Int) + 1) = ((i + 1 : Nat) : Int) := by rw [fitW (by omega) (by omega)]; rfl
    rw [show m + 1 + 1 + k = (m + 1 + k) + 1 by omega]
    rw [stockaderef04_Check.l0]
    rw [if_pos (by omega), if_pos (by omega), refMay_eq, hp i (by omega), Option.bind_some, if_pos rfl, hw]
    exact rc_l0_ok n hp hl m (i + 1) k (by omega) (by omega)
theorem rc_l1_bad (hC : ∀ z ∈ C, ok40 z) (hl : C.length ≤ 512) {x : Nat} (hb : bg (plC C) C.length x = true) (ha : alE M C x ≠ 0) (hp : ∀ j, j < x → bg (plC C) C.length j = true → alE M C j = 0) : ∀ (m i k : Nat) (last : Int), x - i = m → i ≤ x →
    stockaderef04_Check.l1 (m + 204 + k) (C.length : Int) (stC C) last (i : Int) M C = some ((x : Int), alE M C x)
  | 0, i, k, last, h, hi => by
    obtain rfl : i = x := by omega
    have hlt := (bg_iff.1 hb).1
    have hal := refAlone_eq (M := M) hC hl k i hlt
    rw [show 0 + 204 + k = (k + 203) + 1 by omega]
    unfold stockaderef04_Check.l1
    rw [if_pos (by omega), if_pos (by omega), if_pos (by rw [stC_len]; omega), stC_get C (by omega), Int.toNat_natCast, if_pos hb, hal, Option.bind_some, if_neg ha]
  | m + 1, i, k, last, h, hi => by
    have hlt := (bg_iff.1 hb).1
    have hal := refAlone_eq (M := M) hC hl (m + 1 + k) i (by omega)
    have hw : wrap64 ((i : Int) + 1) = ((i + 1 : Nat) : Int) := by rw [fitW (by omega) (by omega)]; rfl
    have ih := fun last => rc_l1_bad hC hl hb ha hp m (i + 1) k last (by omega) (by omega)
    rw [show m + 1 + k + 203 = m + 204 + k by omega] at hal
    rw [show m + 1 + 204 + k = (m + 204 + k) + 1 by omega]
    unfold stockaderef04_Check.l1
    rw [if_pos (by omega), if_pos (by omega), if_pos (by rw [stC_len]; omega), stC_get C (by omega), Int.toNat_natCast, hw]
    by_cases c : bg (plC C) C.length i = true
    · rw [if_pos c, hal, Option.bind_some, if_pos (hp i (by omega) c)]
      exact ih _
    · rw [if_neg c]
      exact ih _
theorem rc_l1_ok (hC : ∀ z ∈ C, ok40 z) (hl : C.length ≤ 512) (ha : ∀ j, bg (plC C) C.length j = true → alE M C j = 0) {p : Nat} (hb : bg (plC C) C.length p = true) (hmax : ∀ q, bg (plC C) C.length q = true → q ≤ p) : ∀ (m i k last : Nat), C.length - i = m → i ≤ C.length → (p < i → last = p) → (∀ q, bg (plC C) C.length q = true → q < i → q ≤ last) →
    stockaderef04_Check.l1 (m + 204 + k) (C.length : Int) (stC C) (last : Int) (i : Int) M C = stockaderef04_Check.l2 (k + 203) (C.length : Int) (stC C) (p : Int) 0 M C
  | 0, i, k, last, h, hi, h1, h2 => by
    have hlt := (bg_iff.1 hb).1
    rw [show 0 + 204 + k = (k + 203) + 1 by omega]
    rw [stockaderef04_Check.l1]
    rw [if_neg (by omega), h1 (by omega)]
  | m + 1, i, k, last, h, hi, h1, h2 => by
    have hal := refAlone_eq (M := M) hC hl (m + 1 + k) i (by omega)
    have hw : wrap64 ((i : Int) + 1) = ((i + 1 : Nat) : Int) := by rw [fitW (by omega) (by omega)]; rfl
    have ih := fun last => rc_l1_ok hC hl ha hb hmax m (i + 1) k last (by omega) (by omega)
    rw [show m + 1 + k + 203 = m + 204 + k by omega] at hal
    rw [show m + 1 + 204 + k = (m + 204 + k) + 1 by omega]
    rw [stockaderef04_Check.l1]
    rw [if_pos (by omega), if_pos (by omega), if_pos (by rw [stC_len]; omega), stC_get C (by omega), Int.toNat_natCast, hw]
    by_cases c : bg (plC C) C.length i = true
    · rw [if_pos c, hal, Option.bind_some, if_pos (ha i c)]
      refine ih i (fun hlt => ?_) (fun q hq hlt => by omega)
      have := hmax i c; omega
    · rw [if_neg c]
      refine ih last (fun hlt => ?_) (fun q hq hlt => ?_)
      · by_cases e : p = i
        · rw [e] at hb; exact absurd hb c
        · exact h1 (by omega)
      · by_cases e : q = i
        · rw [e] at hq; exact absurd hq c
        · exact h2 q hq (by omega)
theorem rc_step (hC : ∀ z ∈ C, ok40 z) (hl : C.length ≤ 512) {i : Nat} (hb : bg (plC C) C.length i = true) (k : Nat) (last : Int) :
    stockaderef04_Check.l2 (k + 201) (C.length : Int) (stC C) last (i : Int) M C = if badJ 40 C (stC C) i = true then some ((i : Int), 24) else stockaderef04_Check.l2 (k + 200) (C.length : Int) (stC C) last ((i + 1 : Nat) : Int) M C := by
  have hlt := (bg_iff.1 hb).1
  have hw : wrap64 ((i : Int) + 1) = ((i + 1 : Nat) : Int) := by rw [fitW (by omega) (by omega)]; rfl
  have ht : ∀ x : S40, x = rdn C i → stockaderef04_Target.f (i : Int) x.f0 x.f1 x.f2 x.f3 x.f4 = some (toF C i) := fun x hx => by rw [hx]; rfl
  rw [show k + 201 = (k + 200) + 1 by omega]
  rw [stockaderef04_Check.l2]
  rw [if_pos (by omega), if_pos (by omega), if_pos (by rw [stC_len]; omega), stC_get C (by omega), Int.toNat_natCast, if_pos hb, if_pos (by omega), refOf_at (ok_rd hC _) k, Option.bind_some, ht (rd_T40 C (i : Int)) rfl, Option.bind_some, hw]
  unfold badJ
  rw [ofF_eq hC 36, stC_len]
  have er : rd_T40 C (i : Int) = rdn C i := rfl
  rw [er]
  generalize (ofx (rdn C i)).1 = c
  by_cases c6 : c = 6
  · subst c6
    by_cases h0 : toF C i < 0
    · simp [h0]
    · by_cases h1 : toF C i ≥ (C.length : Int)
      · simp [h0, h1]
      · have h0' : 0 ≤ toF C i := by omega
        have h1' : ¬ ((C.length : Int) ≤ toF C i) := by omega
        have h1'' : toF C i < (C.length : Int) := by omega
        by_cases hs : rdOf false (stC C) (toF C i) = true
        · simp [h0, h1', h0', h1'', hs]
        · simp [h0, h1', h0', h1'', hs]
  · by_cases c7 : c = 7
    · subst c7
      by_cases h0 : toF C i < 0
      · simp [h0]
      · by_cases h1 : toF C i ≥ (C.length : Int)
        · simp [h0, h1]
        · have h0' : 0 ≤ toF C i := by omega
          have h1' : ¬ ((C.length : Int) ≤ toF C i) := by omega
          have h1'' : toF C i < (C.length : Int) := by omega
          by_cases hs : rdOf false (stC C) (toF C i) = true
          · simp [h0, h1', h0', h1'', hs]
          · simp [h0, h1', h0', h1'', hs]
    · simp [c6, c7]
theorem rc_none {i : Nat} (hl : C.length ≤ 512) (hi : i < C.length) (hb : ¬ bg (plC C) C.length i = true) (k : Nat) (last : Int) :
    stockaderef04_Check.l2 (k + 1) (C.length : Int) (stC C) last (i : Int) M C = stockaderef04_Check.l2 k (C.length : Int) (stC C) last ((i + 1 : Nat) : Int) M C := by
  have hw : wrap64 ((i : Int) + 1) = ((i + 1 : Nat) : Int) := by rw [fitW (by omega) (by omega)]; rfl
  rw [stockaderef04_Check.l2]
  rw [if_pos (by omega), if_pos (by omega), if_pos (by rw [stC_len]; omega), stC_get C (by omega), Int.toNat_natCast, if_neg hb, hw]
theorem rc_l2_bad (hC : ∀ z ∈ C, ok40 z) (hl : C.length ≤ 512) {x : Nat} (hb : bg (plC C) C.length x = true) (hj : badJ 40 C (stC C) x = true) (hp : ∀ j, j < x → bg (plC C) C.length j = true → badJ 40 C (stC C) j = false) (last : Int) : ∀ (m i k : Nat), x - i = m → i ≤ x →
    stockaderef04_Check.l2 (m + 201 + k) (C.length : Int) (stC C) last (i : Int) M C = some ((x : Int), 24)
  | 0, i, k, h, hi => by
    obtain rfl : i = x := by omega
    rw [show 0 + 201 + k = k + 201 by omega, rc_step hC hl hb, if_pos hj]
  | m + 1, i, k, h, hi => by
    have hlt := (bg_iff.1 hb).1
    have ih := rc_l2_bad hC hl hb hj hp last m (i + 1) k (by omega) (by omega)
    by_cases c : bg (plC C) C.length i = true
    · rw [show m + 1 + 201 + k = (m + 1 + k) + 201 by omega, rc_step hC hl c, if_neg (by rw [hp i (by omega) c]; simp), show m + 1 + k + 200 = m + 201 + k by omega]
      exact ih
    · rw [show m + 1 + 201 + k = (m + 201 + k) + 1 by omega, rc_none hl (by omega) c]
      exact ih
theorem rc_l2_ok (hC : ∀ z ∈ C, ok40 z) (hl : C.length ≤ 512) (hj : ∀ j, bg (plC C) C.length j = true → badJ 40 C (stC C) j = false) {p : Nat} (hp : p < C.length) : ∀ (m i k : Nat), C.length - i = m → i ≤ C.length →
    stockaderef04_Check.l2 (m + 201 + k) (C.length : Int) (stC C) (p : Int) (i : Int) M C = if (ofx (rdn C p)).1 = 7 then some (0, 0) else if (ofx (rdn C p)).1 = 9 then some (0, 0) else some ((p : Int), 25)
  | 0, i, k, h, hi => by
    rw [show 0 + 201 + k = (k + 200) + 1 by omega]
    rw [stockaderef04_Check.l2]
    rw [if_neg (by omega), if_pos (by omega), if_pos (by omega), refOf_at (ok_rd hC _) k, Option.bind_some]; rfl
  | m + 1, i, k, h, hi => by
    have ih := rc_l2_ok hC hl hj hp m (i + 1) k (by omega) (by omega)
    by_cases c : bg (plC C) C.length i = true
    · rw [show m + 1 + 201 + k = (m + 1 + k) + 201 by omega, rc_step hC hl c, if_neg (by rw [hj i c]; simp), show m + 1 + k + 200 = m + 201 + k by omega]
      exact ih
    · rw [show m + 1 + 201 + k = (m + 201 + k) + 1 by omega, rc_none hl (by omega) c]
      exact ih
/-- The document's Check answers as the program's. -/
theorem refCheck_eq (hC : ∀ z ∈ C, ok40 z) (k : Nat) : stockaderef04_Check.f (2000 + k) M C = shape_Check.f M C := by
  unfold stockaderef04_Check.f
  rcases Check_all (M := M) hC with h0 | ⟨h0, h1⟩ | ⟨h0, h1, h2, hm⟩
  · rw [Check_short h0, if_pos (by omega)]
  · rw [Check_long h0 h1, if_neg (by omega)]
    rw [show 2000 + k = (1999 + k) + 1 by omega]
    by_cases c : (C.length : Int) > 512
    · rw [if_pos c, stockaderef04_Check.j0, if_pos rfl]
    · rw [if_neg c, stockaderef04_Check.j0, if_pos (decide_eq_true (by omega))]
  rw [if_neg (by omega), if_neg (by omega), show 2000 + k = (1999 + k) + 1 by omega, stockaderef04_Check.j0, if_neg (by simp; omega)]
  rcases hm with ⟨x, hm⟩ | ⟨hm, ha⟩
  · rw [Check_maps hC h0 h1 h2 hm]
    unfold mapsBad at hm
    rw [List.find?_range_eq_some] at hm
    obtain ⟨m1, m2, m3⟩ := hm
    have m2' : x < M.length := List.mem_range.1 m2
    have := rc_l0_bad (M := M) (C := C) (C.length : Int) m2' (by simpa using m1) (fun j hj => by have := m3 j hj; simpa using this) h2 x 0 (1999 + k - x - 1) rfl (by omega)
    rw [show x + 1 + (1999 + k - x - 1) = 1999 + k by omega] at this
    exact this
  have hmay : ∀ j, j < M.length → mayF M j = true := fun j hj => by
    have := List.find?_eq_none.1 hm j (List.mem_range.2 hj)
    simpa using this
  obtain ⟨K, hK⟩ : ∃ K, K = 1999 + k - M.length - 1 := ⟨_, rfl⟩
  have hs := refStarts_eq hC (show C.length < 140737488355328 by omega) (K - C.length - 201)
  rw [show C.length + 201 + (K - C.length - 201) = K by omega] at hs
  have h3 := rc_l0_ok (C := C) (C.length : Int) hmay h2 M.length 0 K (by omega) (by omega)
  rw [show M.length + 1 + K = 1999 + k by omega, hs, Option.bind_some] at h3
  rw [show ((0 : Nat) : Int) = 0 from rfl] at h3
  rw [h3]
  rcases ha with ⟨x, hb, ha, hp⟩ | ⟨ha, hj⟩
  · have hlt := (bg_iff.1 hb).1
    rw [Check_alone hC h1 h2 hm hb ha hp]
    have := rc_l1_bad hC h1 hb ha hp x 0 (K - x - 204) 0 rfl (by omega)
    rw [show x + 204 + (K - x - 204) = K by omega] at this
    exact this
  obtain ⟨p, hp⟩ := last_some (C := C) h0
  obtain ⟨pm, pmax⟩ := last_max 0 p hp
  have hpb : bg (plC C) C.length p.1 = true := bg_iff.2 ⟨p.2, pm⟩
  have hmx : ∀ q, bg (plC C) C.length q = true → q ≤ p.1 := fun q hq => by
    obtain ⟨hl, hmem⟩ := bg_iff.1 hq
    exact pmax _ hmem
  have h4 := rc_l1_ok hC h1 ha hpb hmx C.length 0 (K - C.length - 204) 0 (by omega) (by omega) (fun h => by omega) (fun q _ h => by omega)
  rw [show C.length + 204 + (K - C.length - 204) = K by omega] at h4
  rw [show ((0 : Nat) : Int) = 0 from rfl] at h4
  rw [h4]
  obtain ⟨J, hJ⟩ : ∃ J, J = K - C.length - 204 + 203 := ⟨_, rfl⟩
  rw [← hJ]
  rcases hj with ⟨x, hb, hj, hq⟩ | ⟨hj, _⟩
  · have hlt := (bg_iff.1 hb).1
    rw [Check_jump hC h1 h2 hm ha hb hj hq]
    have := rc_l2_bad (M := M) hC h1 hb hj hq (p.1 : Int) x 0 (J - x - 201) rfl (by omega)
    rw [show x + 201 + (J - x - 201) = J by omega] at this
    exact this
  · have h5 := rc_l2_ok (M := M) hC h1 hj p.2 C.length 0 (J - C.length - 201) rfl (by omega)
    rw [show C.length + 201 + (J - C.length - 201) = J by omega] at h5
    rw [show ((0 : Nat) : Int) = 0 from rfl] at h5
    rw [h5]
    by_cases c7 : (ofx (rdn C p.1)).1 = 7
    · rw [if_pos c7, right_eq hC ⟨h0, h1, h2, hm, ha, hj, fun q hq => by rw [hp] at hq; rw [← Option.some.inj hq]; exact .inl c7⟩]
    · rw [if_neg c7]
      by_cases c9 : (ofx (rdn C p.1)).1 = 9
      · rw [if_pos c9, right_eq hC ⟨h0, h1, h2, hm, ha, hj, fun q hq => by rw [hp] at hq; rw [← Option.some.inj hq]; exact .inr c9⟩]
      · rw [if_neg c9, Check_fall hC h1 h2 hm ha hj hp c7 c9]
theorem same_l1 (h : C.length < 140737488355328) : ∀ (m i k : Nat), C.length - i = m → i ≤ C.length → stockadelaw04_same.l1 (m + 1 + k) (C.length : Int) (i : Int) M C M C = some true
  | 0, i, k, hm, hi => by
    rw [show 0 + 1 + k = k + 1 by omega]
    unfold stockadelaw04_same.l1
    rw [if_neg (by omega)]
  | m + 1, i, k, hm, hi => by
    have hw : wrap64 ((i : Int) + 1) = ((i + 1 : Nat) : Int) := by rw [fitW (by omega) (by omega)]; rfl
    rw [show m + 1 + 1 + k = (m + 1 + k) + 1 by omega]
    unfold stockadelaw04_same.l1
    rw [if_pos (by omega), if_pos (by omega), if_pos (by omega), if_pos (by omega), if_neg (by simp), hw]
    exact same_l1 h m (i + 1) k (by omega) (by omega)
theorem same_l0 (h : C.length < 140737488355328) (h' : M.length < 140737488355328) : ∀ (m i k : Nat), M.length - i = m → i ≤ M.length → stockadelaw04_same.l0 (m + 2 + C.length + k) (M.length : Int) (i : Int) M C M C = some true
  | 0, i, k, hm, hi => by
    rw [show 0 + 2 + C.length + k = (C.length + 1 + k) + 1 by omega]
    unfold stockadelaw04_same.l0
    rw [if_neg (by omega)]
    exact same_l1 h C.length 0 k (by omega) (by omega)
  | m + 1, i, k, hm, hi => by
    have hw : wrap64 ((i : Int) + 1) = ((i + 1 : Nat) : Int) := by rw [fitW (by omega) (by omega)]; rfl
    rw [show m + 1 + 2 + C.length + k = (m + 2 + C.length + k) + 1 by omega]
    unfold stockadelaw04_same.l0
    rw [if_pos (by omega), if_pos (by omega), if_pos (by omega), if_pos (by omega), if_neg (by simp), hw]
    exact same_l0 h h' m (i + 1) k (by omega) (by omega)
theorem same_eq (h : C.length < 140737488355328) (h' : M.length < 140737488355328) (k : Nat) : stockadelaw04_same.f (M.length + 3 + C.length + k) M C M C = some true := by
  unfold stockadelaw04_same.f
  rw [if_pos rfl, show ((C.length : Int) != (C.length : Int)) = false by simp, show M.length + 3 + C.length + k = (M.length + 2 + C.length + k) + 1 by omega]
  rw [stockadelaw04_same.j0]
  rw [if_neg (by simp)]
  exact same_l0 h h' M.length 0 k (by omega) (by omega)
end
theorem ShapeChecks (l0_0 : List S52) (l0_1 : List S40) (y0_0 : l0_0.length * 32 ≤ 140737488351232) (hw0_0 : ∀ z ∈ l0_0, ok52 z) (y0_1 : l0_1.length * 12 ≤ 140737488351232) (hw0_1 : ∀ z ∈ l0_1, ok40 z) : ∃ k, P.stockadelaw04_ShapeChecks.f k l0_0 l0_1 = some true := by
  obtain ⟨K, hK⟩ : ∃ K, K = l0_0.length + l0_1.length + 2100 := ⟨_, rfl⟩
  refine ⟨K, ?_⟩
  obtain ⟨v, hv⟩ := Check_some (M := l0_0) hw0_1
  have hr := refCheck_eq (M := l0_0) hw0_1 (K - 2000)
  rw [show 2000 + (K - 2000) = K by omega, hv] at hr
  have hs := same_eq (M := l0_0) (C := l0_1) (by omega) (by omega) (K - (l0_0.length + 3 + l0_1.length))
  rw [show l0_0.length + 3 + l0_1.length + (K - (l0_0.length + 3 + l0_1.length)) = K by omega] at hs
  unfold stockadelaw04_ShapeChecks.f
  rw [twin_eq y0_0 y0_1, Option.bind_some, hv, Option.bind_some, hr, Option.bind_some, awake_eq, Option.bind_some, if_pos rfl, if_pos rfl, if_pos rfl, hs]
  rfl
end Go.Proofs.YtdhiibkcoolbeaaDoor.Pure
