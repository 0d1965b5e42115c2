/- The law AsmPrints holds for every code: its text, or why it has none, is the document's; the code stays as it is. -/
-- in one
import Derived.Test.YtondogoepcndiaaDoorPx6
import Derived.Test.YtondogoepcndiaaDoorPx24
import Derived.Test.YtondogoepcndiaaDoorPx23
import Derived.Test.YtondogoepcndiaaDoorPx4
import Derived.Test.YtondogoepcndiaaDoorPx5
import Derived.Laws.BitsAllLaws
import Derived.Test.YtondogoepcndiaaDoorNu
import Derived.Lib.ItoaNum
import Derived.Lib.ParseIntB
import Derived.Lib.SplitLaws
import Derived.Lib.Index
import Derived.Lib.IndexMore
import Derived.Test.YtondogoepcndiaaDoorPx9
import Derived.Test.YtondogoepcndiaaDoorPx26
import Derived.Test.YtondogoepcndiaaDoorPx10
import Derived.Test.YtondogoepcndiaaDoorPx27
import Derived.Test.YtondogoepcndiaaDoorPx21
import Derived.Test.YtondogoepcndiaaDoorOs
import Derived.Test.YtondogoepcndiaaDoorPx28
/- Chapter 03: what kind, fields and Of come to, in plain terms. -/
namespace Go.Proofs.YtondogoepcndiaaDoor.Pure
open Go.RowKit Go.Proofs.YtondogoepcndiaaDoorW.PrintWords Go.Proofs.YtondogoepcndiaaDoorW.PrintLast Go.Proofs.YtondogoepcndiaaDoorW.PrintMore Go.Proofs.YtondogoepcndiaaDoor.P
set_option linter.unusedVariables false
set_option linter.unusedSimpArgs false

abbrev W5 := Int × Int × Int × Bool × Bool
def zeroV : W5 := (0, 0, 0, false, false)
def condB (n : Int) : Bool := decide (1 ≤ n ∧ n ≤ 7 ∨ 10 ≤ n ∧ n ≤ 13)
def jumpV (op : Int) : W5 :=
  if condB (op / 16) = true then (6, op / 16, 0, decide (op % 8 = 5), decide (op / 8 % 2 = 1))
  else if op = 5 then (7, 0, 0, false, false) else if op = 133 then (8, 0, 0, false, false) else if op = 149 then (9, 0, 0, false, false) else zeroV
def sizeV (n : Int) : Int := if n = 0 then 4 else if n = 1 then 2 else if n = 2 then 1 else 8
def classV (n : Int) : Int := if n = 1 then 3 else if n = 2 then 5 else 4
/-- What an instruction is by its Op (and the Src of 18, the Imm of d7). -/
def kindV (op src imm : Int) : W5 :=
  if op % 8 = 4 ∨ op % 8 = 7 then
    if op = 215 ∧ (imm = 16 ∨ imm = 32 ∨ imm = 64) then (2, 0, imm / 8, false, false)
    else if op / 16 ≤ 12 ∧ ¬ (op / 16 = 8 ∧ op / 8 % 2 = 1) then (1, op / 16, 0, decide (op % 8 = 7), decide (op / 8 % 2 = 1)) else zeroV
  else if op % 8 = 5 ∨ op % 8 = 6 then jumpV op
  else if op % 8 = 0 then (if op = 24 ∧ src < 2 then (10 + src, 0, 0, false, false) else zeroV)
  else if op / 32 = 3 then (classV (op % 4), 0, sizeV (op / 8 % 4), false, false) else zeroV
theorem b7 {op : Int} (h0 : 0 ≤ op) (h1 : op ≤ 255) : Go.bits .and .u8 op 7 = op % 8 := u8_and7 op h0 (by omega)
theorem b3 {op : Int} (h0 : 0 ≤ op) (h1 : op ≤ 255) : Go.bits .and .u8 op 3 = op % 4 := by
  rw [u8_and op 3 h0 (by omega) (by omega) (by omega), show ((3 : Int)).toNat = 3 from rfl, nat_mask2]; omega
theorem b8 {op : Int} (h0 : 0 ≤ op) (h1 : op ≤ 255) : (Go.bits .and .u8 op 8 != 0) = decide (op / 8 % 2 = 1) := by
  obtain ⟨n, rfl⟩ := Int.eq_ofNat_of_zero_le h0
  have h : ∀ n : Fin 256, (Go.bits .and .u8 (n.val : Int) 8 != 0) = decide ((n.val : Int) / 8 % 2 = 1) := by decide +kernel
  exact h ⟨n, by omega⟩
theorem fitW {a : Int} (h0 : -9223372036854775808 ≤ a) (h1 : a ≤ 9223372036854775807) : wrap64 a = a := by unfold wrap64; omega
theorem cond_eq (n : Int) : insn_cond.f n = some (condB n) := by
  unfold insn_cond.f condB
  repeat' split
  all_goals (simp only [Option.some.injEq, decide_eq_decide]; first | omega | (simp only [eq_comm (a := true), eq_comm (a := false), decide_eq_true_eq, decide_eq_false_iff_not]; omega))
theorem jump_eq {op : Int} (h0 : 0 ≤ op) (h1 : op ≤ 255) : insn_jump.f op (op / 16) (decide (op / 8 % 2 = 1)) = some (jumpV op) := by
  have e : (op % 8 == 5) = decide (op % 8 = 5) := rfl
  simp only [insn_jump.f, cond_eq, Option.bind_some, b7 h0 h1, jumpV, e, zeroV]
  repeat' split
  all_goals simp_all
theorem kind_eq {op dst src off imm : Int} (k : Nat) (h0 : 0 ≤ op) (h1 : op ≤ 255) (s0 : 0 ≤ src) (s1 : src ≤ 255) (i0 : -2147483648 ≤ imm) (i1 : imm ≤ 2147483647) :
    insn_kind.f (k + 4) op dst src off imm = some (kindV op src imm) := by
  have e8 : Go.bits .and .u8 (op / 8) 3 = op / 8 % 4 := b3 (by omega) (by omega)
  have ew : wrap64 (op / 16) = op / 16 := fitW (by omega) (by omega)
  have ei : wrap64 imm = imm := fitW (by omega) (by omega)
  have es : wrap64 src = src := fitW (by omega) (by omega)
  have es' : wrap64 (10 + src) = 10 + src := fitW (by omega) (by omega)
  have rdg : ∀ n : Int, 0 ≤ n → n < 4 → rd gl2 n = sizeV n := by
    intro n n0 n4
    have : n = 0 ∨ n = 1 ∨ n = 2 ∨ n = 3 := by omega
    rcases this with rfl | rfl | rfl | rfl <;> decide +kernel
  have rdc : op % 4 = 1 ∨ op % 4 = 2 ∨ op % 4 = 3 → rdOf (0 : Int) ([0, 3, 5, 4] : List Int) (op % 4) = classV (op % 4) := by
    rintro (h | h | h) <;> rw [h] <;> decide +kernel
  have hm : op % 8 = 0 ∨ op % 8 = 1 ∨ op % 8 = 2 ∨ op % 8 = 3 ∨ op % 8 = 4 ∨ op % 8 = 5 ∨ op % 8 = 6 ∨ op % 8 = 7 := by omega
  unfold insn_kind.f insn_kind.j0 insn_kind.j1 insn_kind.j2 insn_kind.j3
  simp only [b7 h0 h1, b3 h0 h1, b8 h0 h1, e8, ew, ei, es, es', jump_eq h0 h1]
  rcases hm with h | h | h | h | h | h | h | h
  · simp [h, kindV, zeroV]
    repeat' split
    all_goals simp_all
  · simp [h, kindV, zeroV, rdc (by omega), rdg (op / 8 % 4) (by omega) (by omega), show 0 ≤ op % 4 by omega, show op % 4 < 4 by omega, show 0 ≤ op / 8 % 4 by omega, show op / 8 % 4 < 4 by omega]
    split <;> rfl
  · simp [h, kindV, zeroV, rdc (by omega), rdg (op / 8 % 4) (by omega) (by omega), show 0 ≤ op % 4 by omega, show op % 4 < 4 by omega, show 0 ≤ op / 8 % 4 by omega, show op / 8 % 4 < 4 by omega]
    split <;> rfl
  · simp [h, kindV, zeroV, rdc (by omega), rdg (op / 8 % 4) (by omega) (by omega), show 0 ≤ op % 4 by omega, show op % 4 < 4 by omega, show 0 ≤ op / 8 % 4 by omega, show op / 8 % 4 < 4 by omega]
    split <;> rfl
  · simp [h, kindV, zeroV]
    repeat' split
    all_goals (try simp_all)
    all_goals (try omega)
  · simp [h, kindV, zeroV]
  · simp [h, kindV, zeroV]
  · have t1 : wrap64 (Int.tdiv 16 8) = 2 := by decide +kernel
    have t2 : wrap64 (Int.tdiv 32 8) = 4 := by decide +kernel
    have t3 : wrap64 (Int.tdiv 64 8) = 8 := by decide +kernel
    simp [h, kindV, zeroV]
    repeat' split
    all_goals (try simp_all)
    all_goals (try omega)
def fieldsV (w : W5) : Bool × Bool × Bool × Bool × Bool :=
  if w.1 = 1 then (true, true, w.2.2.2.2, false, !w.2.2.2.2 && decide (w.2.1 ≠ 8))
  else if w.1 = 2 ∨ w.1 = 10 ∨ w.1 = 11 then (true, true, false, false, true)
  else if w.1 = 3 then (true, true, true, true, false)
  else if w.1 = 4 then (true, false, true, true, false)
  else if w.1 = 5 then (true, false, false, true, true)
  else if w.1 = 6 then (true, false, w.2.2.2.2, true, !w.2.2.2.2)
  else if w.1 = 7 then (false, false, false, true, false)
  else if w.1 = 8 then (false, false, false, false, true)
  else (false, false, false, false, false)
theorem fields_eq (k : Nat) (a b c : Int) (d e : Bool) : insn_fields.f (k + 1) a b c d e = some (fieldsV (a, b, c, d, e)) := by
  unfold insn_fields.f insn_fields.j0 fieldsV
  by_cases c1 : a = 1
  · subst c1; cases e <;> simp [bne]
    by_cases c : b = 8 <;> simp [c]
  by_cases c2 : a = 2
  · subst c2; simp
  by_cases c3 : a = 10
  · subst c3; simp
  by_cases c4 : a = 11
  · subst c4; simp
  by_cases c5 : a = 3
  · subst c5; simp
  by_cases c6 : a = 4
  · subst c6; simp
  by_cases c7 : a = 5
  · subst c7; simp
  by_cases c8 : a = 6
  · subst c8; simp
  by_cases c9 : a = 7
  · subst c9; simp
  by_cases c10 : a = 8
  · subst c10; simp
  simp [c1, c2, c3, c4, c5, c6, c7, c8, c9, c10]
/-- What Of answers. -/
def ofV (op dst src off imm : Int) : Int × Int × Int × Bool × Bool × Int :=
  let w := kindV op src imm
  let f := fieldsV w
  if w.1 = 0 then (0, 0, 0, false, false, 20)
  else if f.1 = true ∧ dst > 10 ∨ f.2.1 = true ∧ dst = 10 ∨ f.2.2.1 = true ∧ src > 10 then (0, 0, 0, false, false, 21)
  else if f.1 = false ∧ dst ≠ 0 ∨ f.2.2.1 = false ∧ src ≠ 0 ∧ w.1 ≠ 11 ∨ f.2.2.2.1 = false ∧ off ≠ 0 ∨ f.2.2.2.2 = false ∧ imm ≠ 0 then (0, 0, 0, false, false, 22)
  else (w.1, w.2.1, w.2.2.1, w.2.2.2.1, w.2.2.2.2, 0)
end Go.Proofs.YtondogoepcndiaaDoor.Pure

/- Chapter 03: what the document's Rows and Find come to, in plain terms. -/
namespace Go.Proofs.YtondogoepcndiaaDoor.Pure
open Go.RowKit Go.Proofs.YtondogoepcndiaaDoorW.PrintWords Go.Proofs.YtondogoepcndiaaDoorW.PrintLast Go.Proofs.YtondogoepcndiaaDoorW.PrintMore Go.Proofs.YtondogoepcndiaaDoor.P
set_option linter.unusedVariables false
set_option linter.unusedSimpArgs false

theorem LeO.up {α : Type} {f : Nat → Option α} (h : ∀ k, LeO (f k) (f (k + 1))) {k : Nat} {r : α} (e : f k = some r) : ∀ j, f (k + j) = some r
  | 0 => e
  | j + 1 => h (k + j) r (LeO.up h e j)
def rowsL : List S84 := (stockaderef02_Rows.f 60).getD []
theorem rows_60 : stockaderef02_Rows.f 60 = some rowsL := by
  have h : (stockaderef02_Rows.f 60).isSome = true := by decide +kernel
  unfold rowsL
  obtain ⟨r, hr⟩ := Option.isSome_iff_exists.1 h
  rw [hr]; rfl
theorem rows_eq (k : Nat) : stockaderef02_Rows.f (k + 60) = some rowsL := by
  rw [Nat.add_comm]; exact LeO.up stockaderef02_Rows.mono rows_60 k
abbrev FT := Int × Int × Int × Int × Bool × Bool × Int × Int × Int × Int × Int
def tup (r : S84) : FT := (r.f0, r.f1.f0, r.f1.f1, r.f1.f2, r.f1.f3, r.f1.f4, r.f2, r.f3, r.f4, r.f5, r.f6)
/-- Does a row stand for an instruction with this Src and this Imm (the Op being its own)? -/
def hit (src imm : Int) (t : FT) : Bool := !(decide (t.2.2.2.2.2.2.2.1 = 4) && decide (src ≠ t.2.2.2.2.2.2.2.2.2.2)) && !(decide (t.2.2.2.2.2.2.2.2.2.1 = 4) && decide (imm ≠ t.2.2.2.2.2.2.2.2.2.2))
def yes (t : Option FT) : Int × Int × Int × Int × Bool × Bool × Int × Int × Int × Int × Int × Bool :=
  match t with
  | some (a, b, c, d, e, f, g, h, i, j, l) => (a, b, c, d, e, f, g, h, i, j, l, true)
  | none => (0, 0, 0, 0, false, false, 0, 0, 0, 0, 0, false)
theorem find_eq {op dst src off imm : Int} (s0 : 0 ≤ src) (s1 : src ≤ 255) (i0 : -2147483648 ≤ imm) (i1 : imm ≤ 2147483647) (l : List S84) (hl : l.length < 1000000) :
    ∀ (n : Nat) (i : Nat) (k : Nat), l.length - i = n → i ≤ l.length → n < k → stockaderef02_Find.l0 k l i op dst src off imm = some (yes (((l.drop i).map tup).find? fun t => decide (t.1 = op) && hit src imm t))
  | n, i, 0, _, _, hk => by omega
  | n, i, k + 1, hn, hi, hk => by
    have es : wrap64 src = src := fitW (by omega) (by omega)
    have ei : wrap64 imm = imm := fitW (by omega) (by omega)
    unfold stockaderef02_Find.l0
    by_cases c : i < l.length
    · have ew : wrap64 ((i : Int) + 1) = ((i + 1 : Nat) : Int) := by rw [fitW (by omega) (by omega)]; omega
      have ih := find_eq (op := op) (dst := dst) (off := off) s0 s1 i0 i1 l hl (n - 1) (i + 1) k (by omega) (by omega) (by omega)
      have hr : rd_T84 l (i : Int) = l[i] := by simp [rd_T84, List.getD_eq_getElem?_getD, List.getElem?_eq_getElem c]
      rw [if_pos (by omega : (i : Int) < (l.length : Int)), if_pos (by omega : (0 : Int) ≤ (i : Int)), ew, ih, hr, es, ei, List.drop_eq_getElem_cons c]
      generalize l[i] = r
      simp only [List.map_cons, List.find?_cons]
      by_cases h0 : r.f0 = op <;> by_cases h3 : r.f3 = 4 <;> by_cases h5 : r.f5 = 4 <;> by_cases h6 : src = r.f6 <;> by_cases h7 : imm = r.f6 <;> simp [h0, h3, h5, h6, h7, tup, hit, yes]
    · rw [if_neg (by omega), List.drop_eq_nil_of_le (by omega)]
      rfl
def rowsT : List FT := rowsL.map tup
def rowsOf (op : Int) : List FT :=
  if op % 8 = 4 ∨ op % 8 = 7 then
    if op = 215 then [(215, 2, 0, 2, false, false, 2, 0, 0, 4, 16), (215, 2, 0, 4, false, false, 2, 0, 0, 4, 32), (215, 2, 0, 8, false, false, 2, 0, 0, 4, 64)]
    else if op / 16 ≤ 12 ∧ ¬ (op / 16 = 8 ∧ op / 8 % 2 = 1) then
      [(op, 1, op / 16, 0, decide (op % 8 = 7), decide (op / 8 % 2 = 1), 2, (if op / 8 % 2 = 1 then 1 else 0), 0, (if op / 8 % 2 = 1 ∨ op / 16 = 8 then 0 else 3), 0)]
    else []
  else if op % 8 = 5 ∨ op % 8 = 6 then
    if condB (op / 16) = true then [(op, 6, op / 16, 0, decide (op % 8 = 5), decide (op / 8 % 2 = 1), 1, (if op / 8 % 2 = 1 then 1 else 0), 3, (if op / 8 % 2 = 1 then 0 else 3), 0)]
    else if op = 5 then [(5, 7, 0, 0, false, false, 0, 0, 3, 0, 0)] else if op = 133 then [(133, 8, 0, 0, false, false, 0, 0, 0, 3, 0)] else if op = 149 then [(149, 9, 0, 0, false, false, 0, 0, 0, 0, 0)] else []
  else if op % 8 = 0 then (if op = 24 then [(24, 10, 0, 0, false, false, 2, 4, 0, 3, 0), (24, 11, 0, 0, false, false, 2, 4, 0, 3, 1)] else [])
  else if op / 32 = 3 then
    (if op % 4 = 1 then [(op, 3, 0, sizeV (op / 8 % 4), false, false, 2, 1, 3, 0, 0)]
     else if op % 4 = 2 then [(op, 5, 0, sizeV (op / 8 % 4), false, false, 1, 0, 3, 3, 0)]
     else [(op, 4, 0, sizeV (op / 8 % 4), false, false, 1, 1, 3, 0, 0)])
  else []
instance ftEq : DecidableEq FT := by unfold FT; exact @instDecidableEqProd _ _ _ (@instDecidableEqProd _ _ _ (@instDecidableEqProd _ _ _ (@instDecidableEqProd _ _ _ (@instDecidableEqProd _ _ _ inferInstance))))
theorem rows_of_nat : ∀ n : Fin 256, rowsT.filter (fun t => decide (t.1 = (n.val : Int))) = rowsOf (n.val : Int) := by decide +kernel
theorem rows_of {op : Int} (h0 : 0 ≤ op) (h1 : op ≤ 255) : rowsT.filter (fun t => decide (t.1 = op)) = rowsOf op := by
  obtain ⟨n, rfl⟩ := Int.eq_ofNat_of_zero_le h0
  exact rows_of_nat ⟨n, by omega⟩
theorem find_filter {α : Type} (p q : α → Bool) : ∀ l : List α, l.find? (fun t => p t && q t) = (l.filter p).find? q
  | [] => rfl
  | x :: l => by

    rw [List.find?_cons, List.filter_cons]
    cases hp : p x
    · simp
    · cases hq : q x
      · simp [hq]
      · simp [hq]
theorem Find_eq {op dst src off imm : Int} (k : Nat) (h0 : 0 ≤ op) (h1 : op ≤ 255) (s0 : 0 ≤ src) (s1 : src ≤ 255) (i0 : -2147483648 ≤ imm) (i1 : imm ≤ 2147483647) :
    stockaderef02_Find.f (k + 200) op dst src off imm = some (yes ((rowsOf op).find? (hit src imm))) := by
  have hl : rowsL.length = 114 := by decide +kernel
  unfold stockaderef02_Find.f
  rw [show k + 200 = (k + 140) + 60 by omega, rows_eq, Option.bind_some]
  have := find_eq (op := op) (dst := dst) (off := off) s0 s1 i0 i1 rowsL (by omega) 114 0 (k + 140 + 60) (by omega) (by omega) (by omega)
  rw [show ((0 : Nat) : Int) = 0 from rfl] at this
  rw [this, List.drop_zero, find_filter (fun t : FT => decide (t.1 = op)) (hit src imm), ← rowsT, rows_of h0 h1]
end Go.Proofs.YtondogoepcndiaaDoor.Pure

/- Chapter 03: the program's Of and the document's Of answer alike. -/
namespace Go.Proofs.YtondogoepcndiaaDoor.Pure
open Go.RowKit Go.Proofs.YtondogoepcndiaaDoorW.PrintWords Go.Proofs.YtondogoepcndiaaDoorW.PrintLast Go.Proofs.YtondogoepcndiaaDoorW.PrintMore Go.Proofs.YtondogoepcndiaaDoor.P
set_option linter.unusedVariables false
set_option linter.unusedSimpArgs false

set_option maxHeartbeats 4000000 in
theorem Of_eq {op dst src off imm : Int} (k : Nat) (h0 : 0 ≤ op) (h1 : op ≤ 255) (s0 : 0 ≤ src) (s1 : src ≤ 255) (i0 : -2147483648 ≤ imm) (i1 : imm ≤ 2147483647) :
    insn_Of.f (k + 4) op dst src off imm = some (ofV op dst src off imm) := by
  unfold insn_Of.f
  rw [kind_eq k h0 h1 s0 s1 i0 i1]
  obtain ⟨a, b, c, d, e, hk⟩ : ∃ a b c d e, kindV op src imm = (a, b, c, d, e) := ⟨_, _, _, _, _, rfl⟩
  have hz : kindV op src imm = zeroV ∨ (kindV op src imm).1 ≠ 0 := by
    unfold kindV jumpV classV
    repeat' split
    all_goals first | exact .inl rfl | (right; simp; done) | (right; simp; omega)
  simp only [Option.bind_some, hk, ofV] at hz ⊢
  rw [show k + 4 = (k + 3) + 1 from rfl, fields_eq]
  generalize fieldsV (a, b, c, d, e) = g
  obtain ⟨g1, g2, g3, g4, g5⟩ := g
  unfold insn_Of.j0
  by_cases ha : a = 0
  · have := hz.resolve_right (by simp [ha])
    simp only [zeroV, Prod.mk.injEq] at this
    obtain ⟨rfl, rfl, rfl, rfl, rfl⟩ := this
    simp
  · simp only [Option.bind_some, ha, if_false]
    have hc : (a == 0 && (b == 0 && (c == 0 && (!d && !e)))) = false := by simp [ha]
    simp only [hc]
    have h10 : dst > 10 → ¬ dst = 0 := by omega
    have h11 : dst = 10 → ¬ dst = 0 := by omega
    have h12 : src > 10 → ¬ src = 0 := by omega
    clear hc hz hk ha h0 h1 s0 s1 i0 i1
    cases g1 <;> cases g2 <;> cases g3 <;> cases g4 <;> cases g5 <;> simp (config := { decide := true }) only [if_true, if_false, Bool.false_eq_true, reduceIte, true_and, false_and, false_or, or_false, and_true, and_false, ne_eq, bne_iff_ne, decide_eq_true_eq, reduceCtorEq]
    all_goals (repeat' split)
    all_goals (first | rfl | (exfalso; omega) | simp_all)
end Go.Proofs.YtondogoepcndiaaDoor.Pure

/- Chapter 03: the document's Of answers as the program's. -/
namespace Go.Proofs.YtondogoepcndiaaDoor.Pure
open Go.RowKit Go.Proofs.YtondogoepcndiaaDoorW.PrintWords Go.Proofs.YtondogoepcndiaaDoorW.PrintLast Go.Proofs.YtondogoepcndiaaDoorW.PrintMore Go.Proofs.YtondogoepcndiaaDoor.P
set_option linter.unusedVariables false
set_option linter.unusedSimpArgs false

def wrongB (u n : Int) : Bool := decide (u = 1 ∧ n > 10 ∨ u = 2 ∧ n > 9)
theorem wrong_eq (u n : Int) : stockaderef02_wrong.f u n = some (wrongB u n) := by
  unfold stockaderef02_wrong.f wrongB
  by_cases h1 : u = 1
  · subst h1; by_cases h : n > 10 <;> simp [h]
  · by_cases h2 : u = 2 <;> simp [h1, h2]
def refV (t : Option FT) (dst src off imm : Int) : Int × Int × Int × Bool × Bool × Int :=
  match t with
  | none => (0, 0, 0, false, false, 20)
  | some (_, a, b, c, d, e, D, S, O, I, _) =>
    if wrongB D dst = true ∨ wrongB S src = true then (0, 0, 0, false, false, 21)
    else if D = 0 ∧ dst ≠ 0 ∨ S = 0 ∧ src ≠ 0 ∨ O = 0 ∧ off ≠ 0 ∨ I = 0 ∧ imm ≠ 0 then (0, 0, 0, false, false, 22)
    else (a, b, c, d, e, 0)
theorem refOf_eq' {op dst src off imm : Int} (k : Nat) (h0 : 0 ≤ op) (h1 : op ≤ 255) (s0 : 0 ≤ src) (s1 : src ≤ 255) (i0 : -2147483648 ≤ imm) (i1 : imm ≤ 2147483647) :
    stockaderef02_Of.f (k + 200) op dst src off imm = some (refV ((rowsOf op).find? (hit src imm)) dst src off imm) := by
  unfold stockaderef02_Of.f
  rw [Find_eq k h0 h1 s0 s1 i0 i1]
  cases (rowsOf op).find? (hit src imm) with
  | none => simp [yes, refV]
  | some t =>
    obtain ⟨_, a, b, c, d, e, D, S, O, I, _⟩ := t
    rw [show k + 200 = (k + 199) + 1 from rfl]
    simp only [yes, Option.bind_some, wrong_eq, if_true, stockaderef02_Of.j0, refV]
    cases hD : wrongB D dst <;> cases hS : wrongB S src <;> simp only [if_true, if_false, Bool.false_eq_true, true_or, or_true, or_self]
    clear hD hS
    by_cases a1 : D = 0 <;> by_cases a2 : S = 0 <;> by_cases a3 : O = 0 <;> by_cases a4 : I = 0 <;> by_cases b1 : dst = 0 <;> by_cases b2 : src = 0 <;> by_cases b3 : off = 0 <;> by_cases b4 : imm = 0 <;> simp [a1, a2, a3, a4, b1, b2, b3, b4]
theorem w_1 (n : Int) : wrongB 1 n = decide (n > 10) := by simp [wrongB]
theorem w_2 (n : Int) : wrongB 2 n = decide (n > 9) := by simp [wrongB]
theorem w_0 (n : Int) : wrongB 0 n = false := by simp [wrongB]
theorem w_4 (n : Int) : wrongB 4 n = false := by simp [wrongB]
/-- One row is there, and it is hit. -/
theorem ref_one {op dst src off imm : Int} {a b c : Int} {d e : Bool} {o D S O I z : Int} {f1 f2 f3 f4 f5 : Bool} (h1 : (rowsOf op).find? (hit src imm) = some (o, a, b, c, d, e, D, S, O, I, z)) (hk : kindV op src imm = (a, b, c, d, e)) (ha : a ≠ 0)
    (hf : fieldsV (a, b, c, d, e) = (f1, f2, f3, f4, f5)) (hw : (f1 = true ∧ dst > 10 ∨ f2 = true ∧ dst = 10 ∨ f3 = true ∧ src > 10) ↔ (wrongB D dst = true ∨ wrongB S src = true))
    (hz : (f1 = false ∧ dst ≠ 0 ∨ f3 = false ∧ src ≠ 0 ∧ a ≠ 11 ∨ f4 = false ∧ off ≠ 0 ∨ f5 = false ∧ imm ≠ 0) ↔ (D = 0 ∧ dst ≠ 0 ∨ S = 0 ∧ src ≠ 0 ∨ O = 0 ∧ off ≠ 0 ∨ I = 0 ∧ imm ≠ 0)) :
    refV ((rowsOf op).find? (hit src imm)) dst src off imm = ofV op dst src off imm := by
  rw [h1]
  unfold ofV
  simp only [hk, hf, refV, if_neg ha]
  by_cases hW : wrongB D dst = true ∨ wrongB S src = true
  · rw [if_pos hW, if_pos (hw.2 hW)]
  · rw [if_neg hW, if_neg (fun h => hW (hw.1 h))]
    by_cases hZ : D = 0 ∧ dst ≠ 0 ∨ S = 0 ∧ src ≠ 0 ∨ O = 0 ∧ off ≠ 0 ∨ I = 0 ∧ imm ≠ 0
    · rw [if_pos hZ, if_pos (hz.2 hZ)]
    · rw [if_neg hZ, if_neg (fun h => hZ (hz.1 h))]
theorem ref_hd {op dst src off imm : Int} {a b c : Int} {d e : Bool} {o D S O I z : Int} {f1 f2 f3 f4 f5 : Bool} {l : List FT} (hr : rowsOf op = (o, a, b, c, d, e, D, S, O, I, z) :: l) (hh : hit src imm (o, a, b, c, d, e, D, S, O, I, z) = true) (hk : kindV op src imm = (a, b, c, d, e)) (ha : a ≠ 0)
    (hf : fieldsV (a, b, c, d, e) = (f1, f2, f3, f4, f5)) (hw : (f1 = true ∧ dst > 10 ∨ f2 = true ∧ dst = 10 ∨ f3 = true ∧ src > 10) ↔ (wrongB D dst = true ∨ wrongB S src = true))
    (hz : (f1 = false ∧ dst ≠ 0 ∨ f3 = false ∧ src ≠ 0 ∧ a ≠ 11 ∨ f4 = false ∧ off ≠ 0 ∨ f5 = false ∧ imm ≠ 0) ↔ (D = 0 ∧ dst ≠ 0 ∨ S = 0 ∧ src ≠ 0 ∨ O = 0 ∧ off ≠ 0 ∨ I = 0 ∧ imm ≠ 0)) :
    refV ((rowsOf op).find? (hit src imm)) dst src off imm = ofV op dst src off imm :=
  ref_one (by rw [hr, List.find?_cons, hh]) hk ha hf hw hz
theorem ref_2nd {op dst src off imm : Int} {a b c : Int} {d e : Bool} {o D S O I z : Int} {f1 f2 f3 f4 f5 : Bool} {x : FT} {l : List FT} (hr : rowsOf op = x :: (o, a, b, c, d, e, D, S, O, I, z) :: l) (h1 : hit src imm x = false) (hh : hit src imm (o, a, b, c, d, e, D, S, O, I, z) = true) (hk : kindV op src imm = (a, b, c, d, e)) (ha : a ≠ 0)
    (hf : fieldsV (a, b, c, d, e) = (f1, f2, f3, f4, f5)) (hw : (f1 = true ∧ dst > 10 ∨ f2 = true ∧ dst = 10 ∨ f3 = true ∧ src > 10) ↔ (wrongB D dst = true ∨ wrongB S src = true))
    (hz : (f1 = false ∧ dst ≠ 0 ∨ f3 = false ∧ src ≠ 0 ∧ a ≠ 11 ∨ f4 = false ∧ off ≠ 0 ∨ f5 = false ∧ imm ≠ 0) ↔ (D = 0 ∧ dst ≠ 0 ∨ S = 0 ∧ src ≠ 0 ∨ O = 0 ∧ off ≠ 0 ∨ I = 0 ∧ imm ≠ 0)) :
    refV ((rowsOf op).find? (hit src imm)) dst src off imm = ofV op dst src off imm :=
  ref_one (by rw [hr, List.find?_cons, h1, List.find?_cons, hh]) hk ha hf hw hz
theorem ref_3rd {op dst src off imm : Int} {a b c : Int} {d e : Bool} {o D S O I z : Int} {f1 f2 f3 f4 f5 : Bool} {x y : FT} {l : List FT} (hr : rowsOf op = x :: y :: (o, a, b, c, d, e, D, S, O, I, z) :: l) (h1 : hit src imm x = false) (h2 : hit src imm y = false) (hh : hit src imm (o, a, b, c, d, e, D, S, O, I, z) = true) (hk : kindV op src imm = (a, b, c, d, e)) (ha : a ≠ 0)
    (hf : fieldsV (a, b, c, d, e) = (f1, f2, f3, f4, f5)) (hw : (f1 = true ∧ dst > 10 ∨ f2 = true ∧ dst = 10 ∨ f3 = true ∧ src > 10) ↔ (wrongB D dst = true ∨ wrongB S src = true))
    (hz : (f1 = false ∧ dst ≠ 0 ∨ f3 = false ∧ src ≠ 0 ∧ a ≠ 11 ∨ f4 = false ∧ off ≠ 0 ∨ f5 = false ∧ imm ≠ 0) ↔ (D = 0 ∧ dst ≠ 0 ∨ S = 0 ∧ src ≠ 0 ∨ O = 0 ∧ off ≠ 0 ∨ I = 0 ∧ imm ≠ 0)) :
    refV ((rowsOf op).find? (hit src imm)) dst src off imm = ofV op dst src off imm :=
  ref_one (by rw [hr, List.find?_cons, h1, List.find?_cons, h2, List.find?_cons, hh]) hk ha hf hw hz
/-- None is there, or none is hit. -/
theorem ref_none {op dst src off imm : Int} (h1 : (rowsOf op).find? (hit src imm) = none) (hk : kindV op src imm = zeroV) :
    refV ((rowsOf op).find? (hit src imm)) dst src off imm = ofV op dst src off imm := by
  rw [h1]
  unfold ofV
  simp only [hk, zeroV, refV, if_true]
theorem ref_of {op dst src off imm : Int} (h0 : 0 ≤ op) (h1 : op ≤ 255) (s0 : 0 ≤ src) (s1 : src ≤ 255) (d0 : 0 ≤ dst) :
    refV ((rowsOf op).find? (hit src imm)) dst src off imm = ofV op dst src off imm := by
  by_cases c1 : op % 8 = 4 ∨ op % 8 = 7
  · by_cases c2 : op = 215
    · subst c2
      have hr : rowsOf 215 = [(215, 2, 0, 2, false, false, 2, 0, 0, 4, 16), (215, 2, 0, 4, false, false, 2, 0, 0, 4, 32), (215, 2, 0, 8, false, false, 2, 0, 0, 4, 64)] := by decide +kernel
      by_cases e1 : imm = 16
      · subst e1
        exact ref_hd hr (by simp [hit]) (show _ = ((2 : Int), (0 : Int), _, false, false) by simp [kindV]) (by decide) rfl (by simp [w_0, w_2]; omega) (by simp)
      by_cases e2 : imm = 32
      · subst e2
        exact ref_2nd hr (by simp [hit]) (by simp [hit]) (show _ = ((2 : Int), (0 : Int), _, false, false) by simp [kindV]) (by decide) rfl (by simp [w_0, w_2]; omega) (by simp)
      by_cases e3 : imm = 64
      · subst e3
        exact ref_3rd hr (by simp [hit]) (by simp [hit]) (by simp [hit]) (show _ = ((2 : Int), (0 : Int), _, false, false) by simp [kindV]) (by decide) rfl (by simp [w_0, w_2]; omega) (by simp)
      exact ref_none (by rw [hr]; simp [hit, e1, e2, e3]) (by simp [kindV, e1, e2, e3])
    · by_cases c3 : op / 16 ≤ 12 ∧ ¬ (op / 16 = 8 ∧ op / 8 % 2 = 1)
      · have hk : kindV op src imm = (1, op / 16, 0, decide (op % 8 = 7), decide (op / 8 % 2 = 1)) := by
          unfold kindV; rw [if_pos c1, if_neg (fun h => c2 h.1), if_pos c3]
        have hr : rowsOf op = [(op, 1, op / 16, 0, decide (op % 8 = 7), decide (op / 8 % 2 = 1), 2, (if op / 8 % 2 = 1 then 1 else 0), 0, (if op / 8 % 2 = 1 ∨ op / 16 = 8 then 0 else 3), 0)] := by
          unfold rowsOf; rw [if_pos c1, if_neg c2, if_pos c3]
        by_cases hg : op / 8 % 2 = 1
        · simp only [hg, if_true, true_or, decide_true] at hk hr
          exact ref_hd hr (by simp [hit]) hk (by decide) rfl (by simp [w_1, w_2]; omega) (by simp)
        · by_cases h8 : op / 16 = 8
          · simp only [hg, h8, if_true, if_false, or_true, decide_false] at hk hr
            exact ref_hd hr (by simp [hit]) hk (by decide) rfl (by simp [w_0, w_2]; omega) (by simp)
          · simp only [hg, h8, if_false, or_self, decide_false] at hk hr
            exact ref_hd (f1 := true) (f2 := true) (f3 := false) (f4 := false) (f5 := true) hr (by simp [hit]) hk (by decide) (by simp [fieldsV, h8]) (by simp [w_0, w_2]; omega) (by simp)
      · exact ref_none (by unfold rowsOf; rw [if_pos c1, if_neg c2, if_neg c3]; rfl) (by unfold kindV; rw [if_pos c1, if_neg (fun h => c2 h.1), if_neg c3])
  by_cases c2 : op % 8 = 5 ∨ op % 8 = 6
  · by_cases c3 : condB (op / 16) = true
    · have hk : kindV op src imm = (6, op / 16, 0, decide (op % 8 = 5), decide (op / 8 % 2 = 1)) := by
        unfold kindV jumpV; rw [if_neg c1, if_pos c2, if_pos c3]
      have hr : rowsOf op = [(op, 6, op / 16, 0, decide (op % 8 = 5), decide (op / 8 % 2 = 1), 1, (if op / 8 % 2 = 1 then 1 else 0), 3, (if op / 8 % 2 = 1 then 0 else 3), 0)] := by
        unfold rowsOf; rw [if_neg c1, if_pos c2, if_pos c3]
      by_cases hg : op / 8 % 2 = 1
      · simp only [hg, if_true, decide_true] at hk hr
        exact ref_hd hr (by simp [hit]) hk (by decide) rfl (by simp [w_1]) (by simp)
      · simp only [hg, if_false, decide_false] at hk hr
        exact ref_hd hr (by simp [hit]) hk (by decide) rfl (by simp [w_1, w_0]) (by simp)
    · have hkk : kindV op src imm = (if op = 5 then (7, 0, 0, false, false) else if op = 133 then (8, 0, 0, false, false) else if op = 149 then (9, 0, 0, false, false) else zeroV) := by
        unfold kindV jumpV; rw [if_neg c1, if_pos c2, if_neg c3]
      have hrr : rowsOf op = (if op = 5 then [(5, 7, 0, 0, false, false, 0, 0, 3, 0, 0)] else if op = 133 then [(133, 8, 0, 0, false, false, 0, 0, 0, 3, 0)] else if op = 149 then [(149, 9, 0, 0, false, false, 0, 0, 0, 0, 0)] else []) := by
        unfold rowsOf; rw [if_neg c1, if_pos c2, if_neg c3]
      by_cases e1 : op = 5
      · rw [if_pos e1] at hkk hrr
        exact ref_hd hrr (by simp [hit]) hkk (by decide) rfl (by simp [w_0]) (by simp)
      by_cases e2 : op = 133
      · rw [if_neg e1, if_pos e2] at hkk hrr
        exact ref_hd hrr (by simp [hit]) hkk (by decide) rfl (by simp [w_0]) (by simp)
      by_cases e3 : op = 149
      · rw [if_neg e1, if_neg e2, if_pos e3] at hkk hrr
        exact ref_hd hrr (by simp [hit]) hkk (by decide) rfl (by simp [w_0]) (by simp)
      rw [if_neg e1, if_neg e2, if_neg e3] at hkk hrr
      exact ref_none (by rw [hrr]; rfl) hkk
  by_cases c3 : op % 8 = 0
  · by_cases c4 : op = 24
    · have hrr : rowsOf op = [(24, 10, 0, 0, false, false, 2, 4, 0, 3, 0), (24, 11, 0, 0, false, false, 2, 4, 0, 3, 1)] := by
        unfold rowsOf; rw [if_neg c1, if_neg c2, if_pos c3, if_pos c4]
      by_cases e0 : src = 0
      · have hk : kindV op src imm = (10, 0, 0, false, false) := by unfold kindV; rw [if_neg c1, if_neg c2, if_pos c3, if_pos ⟨c4, by omega⟩, e0]; rfl
        exact ref_hd hrr (by simp [hit, e0]) hk (by decide) rfl (by simp [w_2, w_4]; omega) (by simp [e0])
      by_cases e1 : src = 1
      · have hk : kindV op src imm = (11, 0, 0, false, false) := by unfold kindV; rw [if_neg c1, if_neg c2, if_pos c3, if_pos ⟨c4, by omega⟩, e1]; rfl
        exact ref_2nd hrr (by simp [hit, e1]) (by simp [hit, e1]) hk (by decide) rfl (by simp [w_2, w_4]; omega) (by simp)
      exact ref_none (by rw [hrr]; simp [hit, e0, e1]) (by unfold kindV; rw [if_neg c1, if_neg c2, if_pos c3, if_neg (by omega)])
    · exact ref_none (by unfold rowsOf; rw [if_neg c1, if_neg c2, if_pos c3, if_neg c4]; rfl) (by unfold kindV; rw [if_neg c1, if_neg c2, if_pos c3, if_neg (fun h => c4 h.1)])
  by_cases c4 : op / 32 = 3
  · have hkk : kindV op src imm = (classV (op % 4), 0, sizeV (op / 8 % 4), false, false) := by
      unfold kindV; rw [if_neg c1, if_neg c2, if_neg c3, if_pos c4]
    have hrr : rowsOf op = (if op % 4 = 1 then [(op, 3, 0, sizeV (op / 8 % 4), false, false, 2, 1, 3, 0, 0)] else if op % 4 = 2 then [(op, 5, 0, sizeV (op / 8 % 4), false, false, 1, 0, 3, 3, 0)] else [(op, 4, 0, sizeV (op / 8 % 4), false, false, 1, 1, 3, 0, 0)]) := by
      unfold rowsOf; rw [if_neg c1, if_neg c2, if_neg c3, if_pos c4]
    unfold classV at hkk
    by_cases e1 : op % 4 = 1
    · rw [if_pos e1] at hkk hrr
      exact ref_hd hrr (by simp [hit]) hkk (by decide) rfl (by simp [w_1, w_2]; omega) (by simp)
    by_cases e2 : op % 4 = 2
    · rw [if_neg e1, if_pos e2] at hkk hrr
      exact ref_hd hrr (by simp [hit]) hkk (by decide) rfl (by simp [w_1, w_0]) (by simp)
    rw [if_neg e1, if_neg e2] at hkk hrr
    exact ref_hd hrr (by simp [hit]) hkk (by decide) rfl (by simp [w_1]) (by simp)
  · exact ref_none (by unfold rowsOf; rw [if_neg c1, if_neg c2, if_neg c3, if_neg c4]; rfl) (by unfold kindV; rw [if_neg c1, if_neg c2, if_neg c3, if_neg c4])
theorem refOf_eq {op dst src off imm : Int} (k : Nat) (h0 : 0 ≤ op) (h1 : op ≤ 255) (d0 : 0 ≤ dst) (s0 : 0 ≤ src) (s1 : src ≤ 255) (i0 : -2147483648 ≤ imm) (i1 : imm ≤ 2147483647) :
    stockaderef02_Of.f (k + 200) op dst src off imm = some (ofV op dst src off imm) := by
  rw [refOf_eq' k h0 h1 s0 s1 i0 i1, ref_of h0 h1 s0 s1 d0]
end Go.Proofs.YtondogoepcndiaaDoor.Pure

/- Chapter 03: what is some instruction's is some row's. -/
namespace Go.Proofs.YtondogoepcndiaaDoor.Pure
open Go.RowKit Go.Proofs.YtondogoepcndiaaDoorW.PrintWords Go.Proofs.YtondogoepcndiaaDoorW.PrintLast Go.Proofs.YtondogoepcndiaaDoorW.PrintMore Go.Proofs.YtondogoepcndiaaDoor.P
set_option linter.unusedVariables false
set_option linter.unusedSimpArgs false

def wOf (r : S84) : W5 := (r.f1.f0, r.f1.f1, r.f1.f2, r.f1.f3, r.f1.f4)
def B (x : Int) : Prop := 0 ≤ x ∧ x ≤ 255
instance (x : Int) : Decidable (B x) := by unfold B; infer_instance
theorem kind_any {op : Int} (h1 : op ≠ 24) (h2 : op ≠ 215) (s i : Int) : kindV op s i = kindV op 0 0 := by
  unfold kindV; simp [h1, h2]
theorem kind_24 (s i : Int) : kindV 24 s i = kindV 24 s 0 := by unfold kindV; simp
theorem kind_215 (s i : Int) : kindV 215 s i = kindV 215 0 i := by unfold kindV; simp
/-- What is some instruction's is some row's. -/
theorem kind_row {op s i : Int} (ho : B op) (hs : B s) : kindV op s i = zeroV ∨ ∃ r ∈ rowsL, wOf r = kindV op s i := by
  have inn : ∀ v : W5, (v = zeroV ∨ v ∈ rowsL.map wOf) → (v = zeroV ∨ ∃ r ∈ rowsL, wOf r = v) := by
    intro v h; rcases h with h | h
    · exact .inl h
    · exact .inr (List.mem_map.1 h)
  apply inn
  by_cases h1 : op = 24
  · subst h1
    rw [kind_24]
    by_cases s0 : s = 0
    · subst s0; right; decide +kernel
    by_cases s1 : s = 1
    · subst s1; right; decide +kernel
    · left; unfold kindV; have := hs.1; simp; omega
  by_cases h2 : op = 215
  · subst h2
    rw [kind_215]
    by_cases c1 : i = 16
    · subst c1; right; decide +kernel
    by_cases c2 : i = 32
    · subst c2; right; decide +kernel
    by_cases c3 : i = 64
    · subst c3; right; decide +kernel
    · left; unfold kindV; simp [c1, c2, c3]
  rw [kind_any h1 h2]
  have h : ∀ n : Fin 256, kindV (n.val : Int) 0 0 = zeroV ∨ kindV (n.val : Int) 0 0 ∈ rowsL.map wOf := by decide +kernel
  obtain ⟨n, rfl⟩ := Int.eq_ofNat_of_zero_le ho.1
  exact h ⟨n, by have := ho.2; omega⟩
end Go.Proofs.YtondogoepcndiaaDoor.Pure

/- Chapter 03, plain: texts, digits, numbers; pieces of texts. No conditions but the ones each theorem names. -/
namespace Go.Proofs.YtondogoepcndiaaDoor.Pure
open Go.RowKit Go.Proofs.YtondogoepcndiaaDoorW.PrintWords Go.Proofs.YtondogoepcndiaaDoorW.PrintLast Go.Proofs.YtondogoepcndiaaDoorW.PrintMore Go.Proofs.YtondogoepcndiaaDoor.P
set_option linter.unusedVariables false
set_option linter.unusedSimpArgs false

/-! with rounds enough -/
theorem Ev.pure {α : Type} {r : α} : Ev (fun _ => some r) r := ⟨0, fun _ _ => rfl⟩
theorem Ev.eq_ {α : Type} {f : Nat → Option α} {r : α} (K0 : Nat) (h : ∀ K, f (K + K0) = some r) : Ev f r := ⟨K0, fun K hK => by have := h (K - K0); rwa [Nat.sub_add_cancel hK] at this⟩
theorem Ev.at_ {α : Type} {f : Nat → Option α} {r s : α} (h : Ev f r) {k : Nat} (m : ∀ k, LeO (f k) (f (k + 1))) (e : f k = some s) : s = r := by
  obtain ⟨K, hK⟩ := h
  have h1 := at_rounds m (Nat.le_max_left k K) e
  rw [hK _ (Nat.le_max_right k K)] at h1
  exact (Option.some.inj h1).symm
theorem Ev.bind_ {α β : Type} {f : Nat → Option α} {g : Nat → α → Option β} {a : α} {b : β} (hf : Ev f a) (hg : Ev (fun K => g K a) b) : Ev (fun K => (f K).bind (g K)) b := by
  obtain ⟨K0, h0⟩ := hf
  obtain ⟨K1, h1⟩ := hg
  exact ⟨max K0 K1, fun K h => by
    have e := h0 K (by omega)
    show (f K).bind (g K) = some b
    rw [e]; exact h1 K (by omega)⟩
theorem Ev.step_ {α : Type} {f g : Nat → Option α} {r : α} (h : ∀ K, f (K + 1) = g K) (hg : Ev g r) : Ev f r := by
  obtain ⟨K0, hK⟩ := hg
  refine ⟨K0 + 1, fun K h1 => ?_⟩
  obtain ⟨K', rfl⟩ : ∃ K', K = K' + 1 := ⟨K - 1, by omega⟩
  rw [h]; exact hK K' (by omega)
theorem Ev.eqn {α : Type} {f g : Nat → Option α} {r : α} (h : ∀ K, f K = g K) (hg : Ev g r) : Ev f r := by
  have : f = g := funext h
  rw [this]; exact hg
theorem w64 {n : Int} (h0 : -9223372036854775808 ≤ n) (h1 : n ≤ 9223372036854775807) : wrap64 n = n := by unfold wrap64; omega

/-! texts as lists -/
theorem mk_app (a b : List UInt8) : (⟨a.toArray⟩ : ByteArray) ++ ⟨b.toArray⟩ = ⟨(a ++ b).toArray⟩ := by
  have : (ByteArray.mk a.toArray ++ ByteArray.mk b.toArray).data = (a ++ b).toArray := by simp
  cases h : (ByteArray.mk a.toArray ++ ByteArray.mk b.toArray)
  rw [h] at this
  exact congrArg ByteArray.mk this
theorem mk_size (a : List UInt8) : (⟨a.toArray⟩ : ByteArray).size = a.length := by simp [ByteArray.size]
theorem mk_list (a : List UInt8) : (⟨a.toArray⟩ : ByteArray).toList = a := by rw [Lib.toList_data]
theorem eq_mk (s : ByteArray) : s = ⟨s.data.toList.toArray⟩ := rfl
theorem mk_inj {a b : List UInt8} (h : (⟨a.toArray⟩ : ByteArray) = ⟨b.toArray⟩) : a = b := by
  have := congrArg ByteArray.toList h
  rwa [mk_list, mk_list] at this
theorem extr (s : List UInt8) (a b : Nat) : (⟨s.toArray⟩ : ByteArray).extract a b = ⟨((s.drop a).take (b - a)).toArray⟩ := by
  rw [eq_mk ((⟨s.toArray⟩ : ByteArray).extract a b), Lib.extract_data]
theorem bt_get {s : List UInt8} {i : Nat} (h : i < s.length) : bt ⟨s.toArray⟩ (i : Int) = ((s[i].toNat : Nat) : Int) := by
  unfold bt
  have h2 : (i : Int).toNat < (⟨s.toArray⟩ : ByteArray).size := by rw [mk_size]; simpa using h
  rw [dif_pos h2]
  simp [ByteArray.getElem_eq_getElem_data]
theorem map_data_inj : ∀ {a b : List ByteArray}, a.map (·.data.toList) = b.map (·.data.toList) → a = b := by
  intro a
  induction a with
  | nil => intro b h; cases b with
    | nil => rfl
    | cons y b => simp at h
  | cons x a ih => intro b h; cases b with
    | nil => simp at h
    | cons y b =>
      simp only [List.map_cons, List.cons.injEq] at h
      rw [ih h.2, eq_mk x, eq_mk y, h.1]

/-! digits -/
def IsDig (c : UInt8) : Prop := 48 ≤ c.toNat ∧ c.toNat ≤ 57
instance (c : UInt8) : Decidable (IsDig c) := inferInstanceAs (Decidable (_ ∧ _))
theorem dig_ofNat {d : Nat} (h : d < 10) : (UInt8.ofNat (48 + d)).toNat = 48 + d := by
  rw [UInt8.toNat_ofNat']; omega
theorem dec_dig : ∀ (m n : Nat), n ≤ m → ∀ c ∈ Lib.decDigits n, IsDig c := by
  intro m
  induction m with
  | zero =>
    intro n hn c hc
    obtain rfl : n = 0 := by omega
    rw [Lib.decDigits_one (by omega)] at hc
    rw [List.mem_singleton.1 hc]
    exact ⟨by rw [dig_ofNat (by omega)]; omega, by rw [dig_ofNat (by omega)]; omega⟩
  | succ m ih =>
    intro n hn c hc
    rw [Lib.decDigits] at hc
    split at hc
    · rename_i h
      rw [List.mem_singleton.1 hc]
      exact ⟨by rw [dig_ofNat h]; omega, by rw [dig_ofNat h]; omega⟩
    · rename_i h
      rcases List.mem_append.1 hc with hc | hc
      · exact ih (n / 10) (by omega) c hc
      · rw [List.mem_singleton.1 hc]
        exact ⟨by rw [dig_ofNat (by omega)]; omega, by rw [dig_ofNat (by omega)]; omega⟩
theorem dec_digs (n : Nat) : ∀ c ∈ Lib.decDigits n, IsDig c := dec_dig _ _ (Nat.le_refl _)
def valF (acc : Nat) (l : List UInt8) : Nat := l.foldl (fun a c => a * 10 + (c.toNat - 48)) acc
theorem valF_cons (acc : Nat) (c : UInt8) (l : List UInt8) : valF acc (c :: l) = valF (acc * 10 + (c.toNat - 48)) l := by unfold valF; rw [List.foldl_cons]
theorem valF_snoc (acc : Nat) (l : List UInt8) (c : UInt8) : valF acc (l ++ [c]) = valF acc l * 10 + (c.toNat - 48) := by unfold valF; rw [List.foldl_append]; rfl
theorem valF_le : ∀ (l : List UInt8) (acc : Nat), acc ≤ valF acc l := by
  intro l
  induction l with
  | nil => intro acc; exact Nat.le_refl _
  | cons c l ih => intro acc; rw [valF_cons]; exact Nat.le_trans (by omega) (ih _)
theorem valF_dec' : ∀ (m n : Nat), n ≤ m → valF 0 (Lib.decDigits n) = n := by
  intro m
  induction m with
  | zero =>
    intro n hn
    obtain rfl : n = 0 := by omega
    rw [Lib.decDigits_one (by omega)]
    show 0 * 10 + ((UInt8.ofNat (48 + 0)).toNat - 48) = 0
    rw [dig_ofNat (by omega)]
  | succ m ih =>
    intro n hn
    rw [Lib.decDigits]
    split
    · rename_i h
      show 0 * 10 + ((UInt8.ofNat (48 + n)).toNat - 48) = n
      rw [dig_ofNat h]; omega
    · rename_i h
      rw [valF_snoc, ih (n / 10) (by omega), dig_ofNat (by omega)]; omega
theorem valF_dec (n : Nat) : valF 0 (Lib.decDigits n) = n := valF_dec' n n (Nat.le_refl _)
theorem dec_ne (n : Nat) : Lib.decDigits n ≠ [] := fun h => by
  have := Lib.nDigits_pos n
  rw [← Lib.decDigits_length, h] at this
  simp at this
theorem dec_head (n : Nat) : ∃ c t, Lib.decDigits n = c :: t ∧ IsDig c := by
  cases h : Lib.decDigits n with
  | nil => exact absurd h (dec_ne n)
  | cons c t => exact ⟨c, t, rfl, dec_digs n c (by rw [h]; exact List.mem_cons_self)⟩
theorem dec_len {n : Nat} (h1 : n < 18446744073709551616) : 1 ≤ (Lib.decDigits n).length ∧ (Lib.decDigits n).length ≤ 20 := by
  rw [Lib.decDigits_length]
  refine ⟨Lib.nDigits_pos _, ?_⟩
  have key : ∀ (k u : Nat), u < 10 ^ (k + 1) → Lib.nDigits u ≤ k + 1 := by
    intro k
    induction k with
    | zero => intro u hu; rw [Lib.nDigits_small (by simpa using hu)]; omega
    | succ k ih =>
      intro u hu
      by_cases hs : u < 10
      · rw [Lib.nDigits_small hs]; omega
      · rw [Lib.nDigits_big hs]
        have := ih (u / 10) (by rw [Nat.pow_succ] at hu; omega)
        omega
  exact key 19 n (by omega)
theorem itoa_pos {n : Int} (h : 0 ≤ n) : Lib.itoa n = Lib.decDigits n.toNat := by unfold Lib.itoa; rw [if_neg (by omega)]
theorem itoa_neg {n : Int} (h : n < 0) : Lib.itoa n = 45 :: Lib.decDigits n.natAbs := by unfold Lib.itoa; rw [if_pos h]
theorem itoa_len {n : Int} (h0 : -9223372036854775808 ≤ n) (h1 : n ≤ 9223372036854775807) : 1 ≤ (Lib.itoa n).length ∧ (Lib.itoa n).length ≤ 21 := by
  by_cases h : n < 0
  · rw [itoa_neg h, List.length_cons]
    have := dec_len (n := n.natAbs) (by omega)
    omega
  · rw [itoa_pos (by omega)]
    have := dec_len (n := n.toNat) (by omega)
    omega

/-! numbers read -/
theorem parse_val {M : Nat} (hM : M ≤ 18446744073709551615) : ∀ (l : List UInt8) (acc : Nat), (∀ c ∈ l, IsDig c) → valF acc l ≤ M → Lib.parseUintM M acc l = .ok (valF acc l) := by
  intro l
  induction l with
  | nil => intro acc _ _; rfl
  | cons c l ih =>
    intro acc hd hv
    have hc := hd c List.mem_cons_self
    rw [valF_cons] at hv ⊢
    have := valF_le l (acc * 10 + (c.toNat - 48))
    rw [Lib.parseUintM, if_pos (show 48 ≤ c.toNat ∧ c.toNat ≤ 57 from hc), if_neg (by omega), if_neg (by omega)]
    exact ih _ (fun x hx => hd x (List.mem_cons_of_mem _ hx)) hv
theorem parseU_dec {B n : Nat} (hB : 2 ^ B - 1 ≤ 18446744073709551615) (h : n ≤ 2 ^ B - 1) : Lib.parseUintB B (Lib.decDigits n) = .ok n := by
  unfold Lib.parseUintB
  rw [if_neg (dec_ne n), parse_val hB _ _ (dec_digs n) (by rw [valF_dec]; exact h), valF_dec]
theorem dig_not {c : UInt8} (h : IsDig c) : ¬ (c.toNat = 43 ∨ c.toNat = 45) := by have := h.1; omega
theorem parseI_pos {B u : Nat} (hB : 2 ^ B - 1 ≤ 18446744073709551615) (h : u < 2 ^ (B - 1)) (h2 : 2 ^ (B - 1) ≤ 2 ^ B - 1) : Lib.parseIntB B (Lib.decDigits u) = .ok (u : Int) := by
  have hu := parseU_dec hB (show u ≤ 2 ^ B - 1 by omega)
  obtain ⟨c, t, e, hc⟩ := dec_head u
  rw [e] at hu ⊢
  unfold Lib.parseIntB
  have hn := dig_not hc
  simp only [if_neg hn]
  rw [hu]
  simp only [(show ¬ c.toNat = 45 from fun h => hn (.inr h)), not_false_eq_true, true_and, false_and, if_false]
  rw [if_neg (by omega)]
theorem parseI_plus {B u : Nat} (hB : 2 ^ B - 1 ≤ 18446744073709551615) (h : u < 2 ^ (B - 1)) (h2 : 2 ^ (B - 1) ≤ 2 ^ B - 1) : Lib.parseIntB B (43 :: Lib.decDigits u) = .ok (u : Int) := by
  have hu := parseU_dec hB (show u ≤ 2 ^ B - 1 by omega)
  unfold Lib.parseIntB
  simp only [(show (43 : UInt8).toNat = 43 from rfl), true_or, if_true]
  rw [hu]
  simp only [(show ¬ (43 : Nat) = 45 by decide), not_false_eq_true, true_and, false_and, if_false]
  rw [if_neg (by omega)]
theorem parseI_neg {B u : Nat} (hB : 2 ^ B - 1 ≤ 18446744073709551615) (h : u ≤ 2 ^ (B - 1)) (h2 : 2 ^ (B - 1) ≤ 2 ^ B - 1) : Lib.parseIntB B (45 :: Lib.decDigits u) = .ok (-(u : Int)) := by
  have hu := parseU_dec hB (show u ≤ 2 ^ B - 1 by omega)
  unfold Lib.parseIntB
  simp only [(show (45 : UInt8).toNat = 45 from rfl), or_true, if_true]
  rw [hu]
  simp only [not_true_eq_false, true_and, false_and, if_false, if_true]
  rw [if_neg (by omega)]
theorem parseI_itoa {B : Nat} (hB : B = 8 ∨ B = 16 ∨ B = 32) {n : Int} (h0 : -(2 ^ (B - 1) : Nat) ≤ n) (h1 : n < (2 ^ (B - 1) : Nat)) : Lib.parseIntB B (Lib.itoa n) = .ok n := by
  have h2 : 2 ^ (B - 1) ≤ 2 ^ B - 1 ∧ 2 ^ B - 1 ≤ 18446744073709551615 := by rcases hB with rfl | rfl | rfl <;> decide
  by_cases h : n < 0
  · rw [itoa_neg h, parseI_neg h2.2 (by omega) h2.1]
    congr 1; omega
  · rw [itoa_pos (by omega), parseI_pos h2.2 (by omega) h2.1]
    congr 1; omega
theorem numF_itoa {B : Nat} (hB : B = 8 ∨ B = 16 ∨ B = 32) {n : Int} (h0 : -(2 ^ (B - 1) : Nat) ≤ n) (h1 : n < (2 ^ (B - 1) : Nat)) : numF B ⟨(Lib.itoa n).toArray⟩ = some n := by
  unfold numF
  rw [show (⟨(Lib.itoa n).toArray⟩ : ByteArray).data.toList = Lib.itoa n from rfl, parseI_itoa hB h0 h1]

/-! pieces -/
theorem occ_char {s sep : List UInt8} {i j : Nat} {c : UInt8} (h : Lib.occAt s sep j = true) (hc : sep[i]? = some c) : s[j + i]? = some c := by
  unfold Lib.occAt at h
  obtain ⟨r, hr⟩ := List.isPrefixOf_iff_prefix.1 h
  have hi : i < sep.length := (List.getElem?_eq_some_iff.1 hc).1
  have : (s.drop j)[i]? = some c := by rw [← hr, List.getElem?_append_left hi]; exact hc
  simpa using this
theorem index_at {A sep B : List UInt8} (h : ∀ j, j < A.length → Lib.occAt (A ++ (sep ++ B)) sep j = false) : Lib.index (A ++ (sep ++ B)) sep = A.length := by
  refine Lib.index_first (by simp) ?_ h
  unfold Lib.occAt
  rw [List.drop_left]
  exact List.isPrefixOf_iff_prefix.2 ⟨B, rfl⟩
theorem cut_at {A sep B : List UInt8} (h : ∀ j, j < A.length → Lib.occAt (A ++ (sep ++ B)) sep j = false) : Lib.cut (A ++ (sep ++ B)) sep = (A, B, true) := by
  unfold Lib.cut
  rw [index_at h, if_pos (by omega), Int.toNat_natCast]
  simp [List.take_left, List.drop_append]
theorem no_occ {A sep B : List UInt8} {c : UInt8} {t : List UInt8} (hs : sep = c :: t) (hc : c ∉ A) : ∀ j, j < A.length → Lib.occAt (A ++ (sep ++ B)) sep j = false := fun j hj => by
  cases h : Lib.occAt (A ++ (sep ++ B)) sep j with
  | false => rfl
  | true =>
    have := occ_char (i := 0) h (by rw [hs]; rfl)
    rw [Nat.add_zero, List.getElem?_append_left hj] at this
    exact absurd (List.mem_of_getElem? this) hc
theorem cut_none {s sep : List UInt8} {c : UInt8} (hc : c ∈ sep) (hs : c ∉ s) : Lib.cut s sep = (s, [], false) := by
  have : Lib.index s sep = -1 := Lib.index_none fun j hj => by
    cases h : Lib.occAt s sep j with
    | false => rfl
    | true =>
      obtain ⟨i, hi, rfl⟩ := List.getElem_of_mem hc
      have := occ_char (i := i) h (List.getElem?_eq_getElem hi)
      exact absurd (List.mem_of_getElem? this) hs
  unfold Lib.cut
  rw [this, if_neg (by omega)]
theorem split_one {A : List UInt8} (h : 44 ∉ A) : Lib.splitK [44, 32] 0 (Lib.count A [44, 32]) A = [A] := by
  have : Lib.index A [44, 32] = -1 := by
    refine Lib.index_none fun j hj => ?_
    cases hh : Lib.occAt A [44, 32] j with
    | false => rfl
    | true =>
      have := occ_char (i := 0) (c := 44) hh rfl
      exact absurd (List.mem_of_getElem? this) h
  rw [Lib.count_miss this]; rfl
theorem split_more {A B : List UInt8} (h : 44 ∉ A) : Lib.splitK [44, 32] 0 (Lib.count (A ++ ([44, 32] ++ B)) [44, 32]) (A ++ ([44, 32] ++ B)) = A :: Lib.splitK [44, 32] 0 (Lib.count B [44, 32]) B := by
  have hi : Lib.index (A ++ ([44, 32] ++ B)) [44, 32] = A.length := index_at (no_occ (c := 44) rfl h)
  have hd : (A ++ ([44, 32] ++ B)).drop (A.length + 2) = B := by
    rw [List.drop_append]; simp
  rw [Lib.count_hit (by simp) hi, Nat.add_comm 1, Lib.splitK, hi, if_neg (by simp only [beq_iff_eq]; omega), Int.toNat_natCast, Nat.add_zero, List.take_left]
  simp only [List.length_cons, List.length_nil]
  rw [hd]
/-- pieces with a comma and a space between -/
def joinL : List (List UInt8) → List UInt8
  | [] => []
  | [a] => a
  | a :: b :: l => a ++ (44 :: 32 :: joinL (b :: l))
theorem split_join : ∀ (a : List UInt8) (l : List (List UInt8)), (∀ x ∈ a :: l, 44 ∉ x) → Lib.splitK [44, 32] 0 (Lib.count (joinL (a :: l)) [44, 32]) (joinL (a :: l)) = a :: l := by
  intro a l
  induction l generalizing a with
  | nil => intro h; exact split_one (h a List.mem_cons_self)
  | cons b l ih =>
    intro h
    show Lib.splitK [44, 32] 0 (Lib.count (a ++ ([44, 32] ++ joinL (b :: l))) [44, 32]) (a ++ ([44, 32] ++ joinL (b :: l))) = _
    rw [split_more (h a List.mem_cons_self), ih b (fun x hx => h x (List.mem_cons_of_mem _ hx))]
theorem ib_at : ∀ {A B : List UInt8} {c : UInt8}, c ∉ A → Lib.indexByte (A ++ c :: B) c = A.length := by
  intro A
  induction A with
  | nil => intro B c _; simp [Lib.indexByte]
  | cons a A ih =>
    intro B c h
    have h1 : a ≠ c := fun e => h (by rw [e]; exact List.mem_cons_self)
    have h2 := ih (B := B) (c := c) (fun e => h (List.mem_cons_of_mem _ e))
    show Lib.indexByte (a :: (A ++ c :: B)) c = _
    unfold Lib.indexByte
    rw [h2, if_neg (by simpa using h1), if_neg (by simp only [beq_iff_eq]; omega), List.length_cons]
    omega
theorem ib_none : ∀ {A : List UInt8} {c : UInt8}, c ∉ A → Lib.indexByte A c = -1 := by
  intro A
  induction A with
  | nil => intro c _; rfl
  | cons a A ih =>
    intro c h
    have h1 : a ≠ c := fun e => h (by rw [e]; exact List.mem_cons_self)
    have h2 := ih (c := c) (fun e => h (List.mem_cons_of_mem _ e))
    unfold Lib.indexByte
    rw [h2, if_neg (by simpa using h1), if_pos (by rfl)]
end Go.Proofs.YtondogoepcndiaaDoor.Pure

/- Chapter 03, plain: the line of an instruction, by the program and by the document's patterns. No conditions but the ones each theorem names. -/
namespace Go.Proofs.YtondogoepcndiaaDoor.Pure
open Go.RowKit Go.Proofs.YtondogoepcndiaaDoorW.PrintWords Go.Proofs.YtondogoepcndiaaDoorW.PrintLast Go.Proofs.YtondogoepcndiaaDoorW.PrintMore Go.Proofs.YtondogoepcndiaaDoor.P
set_option linter.unusedVariables false
set_option linter.unusedSimpArgs false

/-- The fields of a line: the registers, the offset, the number, the high half. -/
structure Fl where
  d : Int
  s : Int
  o : Int
  n : Int
  h : Int
def Fl.In (f : Fl) : Prop := (0 ≤ f.d ∧ f.d ≤ 255) ∧ (0 ≤ f.s ∧ f.s ≤ 255) ∧ (-32768 ≤ f.o ∧ f.o ≤ 32767) ∧ (-2147483648 ≤ f.n ∧ f.n ≤ 2147483647) ∧ (-2147483648 ≤ f.h ∧ f.h ≤ 2147483647)
def wideN (f : Fl) : Nat := ((f.h % 4294967296) * 4294967296 + f.n % 4294967296).toNat
def offL (o : Int) : List UInt8 := if o < 0 then Lib.itoa o else 43 :: Lib.itoa o
def fillB (f : Fl) (c : UInt8) : List UInt8 :=
  if c = 68 then 114 :: Lib.itoa f.d else if c = 83 then 114 :: Lib.itoa f.s else if c = 79 then offL f.o else if c = 78 then Lib.itoa f.n else if c = 85 then Lib.decDigits (wideN f) else [c]
def fillL (f : Fl) (p : List UInt8) : List UInt8 := p.flatMap (fillB f)
theorem fillL_cons (f : Fl) (c : UInt8) (p : List UInt8) : fillL f (c :: p) = fillB f c ++ fillL f p := rfl
theorem fillL_nil (f : Fl) : fillL f [] = [] := rfl
theorem fillL_app (f : Fl) (p q : List UInt8) : fillL f (p ++ q) = fillL f p ++ fillL f q := by unfold fillL; rw [List.flatMap_append]
def isLet (c : UInt8) : Bool := c == 68 || c == 83 || c == 79 || c == 78 || c == 85
def plainL (p : List UInt8) : Bool := p.all (fun c => !isLet c)
theorem fillB_plain (f : Fl) {c : UInt8} (h : isLet c = false) : fillB f c = [c] := by
  unfold isLet at h
  simp only [Bool.or_eq_false_iff, beq_eq_false_iff_ne] at h
  obtain ⟨⟨⟨⟨h1, h2⟩, h3⟩, h4⟩, h5⟩ := h
  unfold fillB
  rw [if_neg h1, if_neg h2, if_neg h3, if_neg h4, if_neg h5]
theorem fillL_plain (f : Fl) : ∀ {p : List UInt8}, plainL p = true → fillL f p = p := by
  intro p
  induction p with
  | nil => intro _; rfl
  | cons c p ih =>
    intro h
    unfold plainL at h
    rw [List.all_cons, Bool.and_eq_true] at h
    rw [fillL_cons, fillB_plain f (by simpa using h.1), ih h.2]; rfl

/-! patterns -/
def opL (k : Int) : List UInt8 := (rdOf ByteArray.empty gl0 k).data.toList
def cdL (k : Int) : List UInt8 := (rdOf ByteArray.empty gl1 k).data.toList
def bitsL (b : Bool) : List UInt8 := if b = true then [54, 52] else [51, 50]
def wordL (w : W5) : List UInt8 :=
  if w.1 = 1 then (if w.2.1 = 8 then [110, 101, 103] ++ bitsL w.2.2.2.1 else opL w.2.1 ++ bitsL w.2.2.2.1)
  else if w.1 = 2 then [115, 119, 97, 112] ++ Lib.itoa (8 * w.2.2.1)
  else if w.1 = 3 then [108, 111, 97, 100] ++ Lib.itoa (8 * w.2.2.1)
  else if w.1 = 4 then [115, 116, 111, 114, 101] ++ Lib.itoa (8 * w.2.2.1)
  else if w.1 = 5 then [112, 117, 116] ++ Lib.itoa (8 * w.2.2.1)
  else if w.1 = 6 then cdL w.2.1 ++ bitsL w.2.2.2.1
  else if w.1 = 7 then [103, 111, 116, 111]
  else if w.1 = 8 then [99, 97, 108, 108]
  else if w.1 = 9 then [101, 120, 105, 116]
  else if w.1 = 10 then [99, 111, 110, 115, 116]
  else [109, 97, 112]
def secP (w : W5) : UInt8 := if w.2.2.2.2 = true then 83 else 78
def argP (w : W5) : List (List UInt8) :=
  if w.1 = 1 then (if w.2.1 = 8 then [[68]] else [[68], [secP w]])
  else if w.1 = 2 then [[68]]
  else if w.1 = 3 then [[68], [83, 79]]
  else if w.1 = 4 then [[68, 79], [83]]
  else if w.1 = 5 then [[68, 79], [78]]
  else if w.1 = 6 then [[68], [secP w], [79]]
  else if w.1 = 7 then [[79]]
  else if w.1 = 8 then [[78]]
  else if w.1 = 9 then []
  else if w.1 = 10 then [[68], [85]]
  else [[68], [78]]
def patL (w : W5) : List UInt8 := wordL w ++ (if argP w = [] then [] else 32 :: joinL (argP w))
def IsRow (w : W5) : Prop := ∃ r ∈ rowsL, wOf r = w
theorem isRow_all {p : W5 → Bool} (h : rowsL.all (fun r => p (wOf r)) = true) {w : W5} (hw : IsRow w) : p w = true := by
  obtain ⟨r, hr, rfl⟩ := hw
  exact List.all_eq_true.1 h r hr
theorem rows_in {w : W5} (hw : IsRow w) : 1 ≤ w.1 ∧ w.1 ≤ 11 ∧ 0 ≤ w.2.1 ∧ w.2.1 ≤ 13 ∧ (w.1 = 1 → w.2.1 ≤ 12) ∧ 0 ≤ w.2.2.1 ∧ w.2.2.1 ≤ 8 := by
  have := isRow_all (p := fun w => decide (1 ≤ w.1 ∧ w.1 ≤ 11 ∧ 0 ≤ w.2.1 ∧ w.2.1 ≤ 13 ∧ (w.1 = 1 → w.2.1 ≤ 12) ∧ 0 ≤ w.2.2.1 ∧ w.2.2.1 ≤ 8)) (by decide +kernel) hw
  exact of_decide_eq_true this
theorem rows_plain {w : W5} (hw : IsRow w) : plainL (wordL w) = true :=
  isRow_all (p := fun w => plainL (wordL w)) (by decide +kernel) hw
theorem Pattern_8 {w : W5} (hw : IsRow w) : (stockaderef03_Pattern.f 8 w.1 w.2.1 w.2.2.1 w.2.2.2.1 w.2.2.2.2).map (·.data.toList) = some (patL w) :=
  of_decide_eq_true (isRow_all (p := fun w => decide ((stockaderef03_Pattern.f 8 w.1 w.2.1 w.2.2.1 w.2.2.2.1 w.2.2.2.2).map (·.data.toList) = some (patL w))) (by decide +kernel) hw)
theorem Pattern_eq {w : W5} (hw : IsRow w) (k : Nat) : stockaderef03_Pattern.f (k + 8) w.1 w.2.1 w.2.2.1 w.2.2.2.1 w.2.2.2.2 = some ⟨(patL w).toArray⟩ := by
  have h := Pattern_8 hw
  cases e : stockaderef03_Pattern.f 8 w.1 w.2.1 w.2.2.1 w.2.2.2.1 w.2.2.2.2 with
  | none => rw [e] at h; cases h
  | some p =>
    rw [e, Option.map_some] at h
    have := at_rounds (stockaderef03_Pattern.mono _ _ _ _ _) (show 8 ≤ k + 8 by omega) e
    rw [this, eq_mk p, Option.some.inj h]
end Go.Proofs.YtondogoepcndiaaDoor.Pure

/- Chapter 03, plain: the program's line is the pattern filled. No conditions but the ones each theorem names. -/
namespace Go.Proofs.YtondogoepcndiaaDoor.Pure
open Go.RowKit Go.Proofs.YtondogoepcndiaaDoorW.PrintWords Go.Proofs.YtondogoepcndiaaDoorW.PrintLast Go.Proofs.YtondogoepcndiaaDoorW.PrintMore Go.Proofs.YtondogoepcndiaaDoor.P
set_option linter.unusedVariables false
set_option linter.unusedSimpArgs false

theorem u64_join {x y : Int} (x0 : 0 ≤ x) (x1 : x < 4294967296) (y0 : 0 ≤ y) (y1 : y < 4294967296) : Go.bits .or .u64 (x * 4294967296) y = x * 4294967296 + y := by
  rw [u64_or _ y (by omega) (by omega) y0 (by omega), nat_join 32 (x * 4294967296).toNat y.toNat (by omega) (by omega)]; omega
theorem itoaP {n : Int} (h0 : -9223372036854775808 ≤ n) (h1 : n ≤ 9223372036854775807) : strconv_Itoa_29.f (wrap64 n) = some ⟨(Lib.itoa n).toArray⟩ := by
  rw [w64 h0 h1]
  unfold strconv_Itoa_29.f
  rw [if_pos ⟨h0, h1⟩]
theorem reg_eq {n : Int} (h0 : 0 ≤ n) (h1 : n ≤ 255) : asm_reg.f n = some ⟨(114 :: Lib.itoa n).toArray⟩ := by
  unfold asm_reg.f
  rw [itoaP (by omega) (by omega)]
  have := itoa_len (n := n) (by omega) (by omega)
  simp only [Option.bind_some, mk_size, mk_app]
  rw [if_pos (by omega)]; rfl
theorem off_eq {o : Int} (h0 : -32768 ≤ o) (h1 : o ≤ 32767) : asm_offset.f o = some ⟨(offL o).toArray⟩ := by
  unfold asm_offset.f offL
  rw [itoaP (by omega) (by omega)]
  have := itoa_len (n := o) (by omega) (by omega)
  simp only [Option.bind_some, mk_size, mk_app]
  split
  · rfl
  · rw [if_pos (by omega)]; rfl
theorem offL_len {o : Int} (h0 : -32768 ≤ o) (h1 : o ≤ 32767) : (offL o).length ≤ 22 := by
  have := itoa_len (n := o) (by omega) (by omega)
  unfold offL
  split
  · omega
  · rw [List.length_cons]; omega
theorem fmt_eq {f : Fl} (hf : f.In) : strconv_FormatUint_31.f (Go.bits .or .u64 ((f.h % 4294967296) * 4294967296) (f.n % 4294967296)) 10 = some ⟨(Lib.decDigits (wideN f)).toArray⟩ := by
  rw [u64_join (by omega) (by omega) (by omega) (by omega)]
  unfold strconv_FormatUint_31.f
  rw [if_pos ⟨rfl, by omega, by omega⟩]; rfl
theorem wide_lt (f : Fl) : wideN f < 18446744073709551616 := by unfold wideN; omega
theorem name_len (k : Int) : (opL k).length ≤ 8 ∧ (cdL k).length ≤ 8 := by
  have h1 : ∀ l : List ByteArray, l.all (fun s => decide (s.data.toList.length ≤ 8)) = true → ∀ n : Nat, ((l.getD n ByteArray.empty).data.toList).length ≤ 8 := by
    intro l hl n
    rw [List.getD_eq_getElem?_getD]
    cases h : l[n]? with
    | none => exact Nat.zero_le _
    | some s => exact of_decide_eq_true (List.all_eq_true.1 hl s (List.mem_of_getElem? h))
  exact ⟨h1 gl0 (by decide +kernel) _, h1 gl1 (by decide +kernel) _⟩
theorem opB (k : Int) : rdOf ByteArray.empty gl0 k = ⟨(opL k).toArray⟩ := rfl
theorem cdB (k : Int) : rdOf ByteArray.empty gl1 k = ⟨(cdL k).toArray⟩ := rfl
theorem bits_len (b : Bool) : (bitsL b).length ≤ 2 := by cases b <;> decide

/-- The line's text, told by its word and its operands. -/
def lineL (w : W5) (f : Fl) : List UInt8 := wordL w ++ (if argP w = [] then [] else 32 :: fillL f (joinL (argP w)))
theorem fill_pat {w : W5} (hw : IsRow w) (f : Fl) : fillL f (patL w) = lineL w f := by
  unfold patL lineL
  rw [fillL_app, fillL_plain f (rows_plain hw)]
  split
  · rfl
  · rfl
theorem second {w : W5} {f : Fl} : fillB f (secP w) = if w.2.2.2.2 = true then 114 :: Lib.itoa f.s else Lib.itoa f.n := by
  unfold secP
  split <;> rfl
set_option maxHeartbeats 1000000 in
theorem line_j1 (w : W5) (f : Fl) (op : Int) (hf : f.In) (hw : IsRow w) (k : Nat) :
    asm_line.j1 (k + 1) f.h ⟨(114 :: Lib.itoa f.d).toArray⟩ ⟨(114 :: Lib.itoa f.s).toArray⟩ ⟨(Lib.itoa f.n).toArray⟩ ⟨(Lib.itoa (8 * w.2.2.1)).toArray⟩ ⟨(bitsL w.2.2.2.1).toArray⟩ ⟨(fillB f (secP w)).toArray⟩ w.1 w.2.1 w.2.2.1 w.2.2.2.1 w.2.2.2.2 op f.d f.s f.o f.n = some ⟨(lineL w f).toArray⟩ := by
  obtain ⟨⟨d0, d1⟩, ⟨s0, s1⟩, ⟨o0, o1⟩, ⟨n0, n1⟩, ⟨h0, h1⟩⟩ := hf
  obtain ⟨c0, c1, p0, p1, p2, z0, z1⟩ := rows_in hw
  have ld := itoa_len (n := f.d) (by omega) (by omega)
  have ls := itoa_len (n := f.s) (by omega) (by omega)
  have ln := itoa_len (n := f.n) (by omega) (by omega)
  have lz := itoa_len (n := 8 * w.2.2.1) (by omega) (by omega)
  have lo := offL_len o0 o1
  have lb := bits_len w.2.2.2.1
  have lp := (name_len w.2.1).1
  have lc := (name_len w.2.1).2
  have lx : (fillB f (secP w)).length ≤ 22 := by
    rw [second]
    split
    · rw [List.length_cons]; omega
    · omega
  have lw := (dec_len (wide_lt f)).2
  rw [asm_line.j1]
  rw [fmt_eq ⟨⟨d0, d1⟩, ⟨s0, s1⟩, ⟨o0, o1⟩, ⟨n0, n1⟩, ⟨h0, h1⟩⟩]
  simp only [opB, cdB, off_eq o0 o1, mk_app, mk_size, Option.bind_some, List.length_append, List.length_cons, List.length_nil]
  have hc : w.1 = 1 ∨ w.1 = 2 ∨ w.1 = 3 ∨ w.1 = 4 ∨ w.1 = 5 ∨ w.1 = 6 ∨ w.1 = 7 ∨ w.1 = 8 ∨ w.1 = 9 ∨ w.1 = 10 ∨ w.1 = 11 := by omega
  rcases hc with h | h | h | h | h | h | h | h | h | h | h
  · by_cases h8 : w.2.1 = 8
    · simp only [h, h8, if_true]
      repeat rw [if_pos (by omega)]
      simp [lineL, wordL, argP, h, h8, joinL, fillL, fillB]
    · have := p2 h
      simp only [h, h8, if_true, if_false]
      repeat rw [if_pos (by omega)]
      simp [lineL, wordL, argP, h, h8, joinL, fillL_cons, fillL_nil, fillB_plain, isLet, fillB]
  all_goals
    simp only [h, Int.reduceEq, if_true, if_false, reduceIte]
    repeat rw [if_pos (by omega)]
    simp [lineL, wordL, argP, h, joinL, fillL_cons, fillL_nil, fillB]
theorem line_j0 (w : W5) (f : Fl) (op : Int) (hf : f.In) (hw : IsRow w) (k : Nat) :
    asm_line.j0 (k + 2) f.h ⟨(114 :: Lib.itoa f.d).toArray⟩ ⟨(114 :: Lib.itoa f.s).toArray⟩ ⟨(Lib.itoa f.n).toArray⟩ ⟨(Lib.itoa (8 * w.2.2.1)).toArray⟩ ⟨(bitsL w.2.2.2.1).toArray⟩ w.1 w.2.1 w.2.2.1 w.2.2.2.1 w.2.2.2.2 op f.d f.s f.o f.n = some ⟨(lineL w f).toArray⟩ := by
  rw [asm_line.j0, ← line_j1 w f op hf hw k, second]
  split <;> rfl
theorem line_eq (w : W5) (f : Fl) (op : Int) (hf : f.In) (hw : IsRow w) (k : Nat) :
    asm_line.f (k + 2) w.1 w.2.1 w.2.2.1 w.2.2.2.1 w.2.2.2.2 op f.d f.s f.o f.n f.h = some ⟨(lineL w f).toArray⟩ := by
  have h := line_j0 w f op hf hw k
  obtain ⟨⟨d0, d1⟩, ⟨s0, s1⟩, ⟨o0, o1⟩, ⟨n0, n1⟩, ⟨h0, h1⟩⟩ := hf
  obtain ⟨c0, c1, p0, p1, p2, z0, z1⟩ := rows_in hw
  unfold asm_line.f
  rw [reg_eq d0 d1, reg_eq s0 s1, itoaP (by omega) (by omega), itoaP (by omega) (by omega)]
  simp only [Option.bind_some]
  split
  · rename_i hb
    rw [show bitsL w.2.2.2.1 = [54, 52] from by rw [hb]; rfl] at h
    exact h
  · rename_i hb
    rw [show bitsL w.2.2.2.1 = [51, 50] from by rw [eq_false_of_ne_true hb]; rfl] at h
    exact h
end Go.Proofs.YtondogoepcndiaaDoor.Pure

/- Chapter 03, plain: the document's digits, numbers, and its filled patterns. No conditions but the ones each theorem names. -/
namespace Go.Proofs.YtondogoepcndiaaDoor.Pure
open Go.RowKit Go.Proofs.YtondogoepcndiaaDoorW.PrintWords Go.Proofs.YtondogoepcndiaaDoorW.PrintLast Go.Proofs.YtondogoepcndiaaDoorW.PrintMore Go.Proofs.YtondogoepcndiaaDoor.P
set_option linter.unusedVariables false
set_option linter.unusedSimpArgs false

theorem wu {n : Int} (h0 : 0 ≤ n) (h1 : n < 18446744073709551616) : IntKind.u64.wrap n = n := by
  have : IntKind.u64.wrap n = n % 18446744073709551616 := by simp [IntKind.wrap, IntKind.bits, IntKind.signed]
  rw [this]; omega
theorem one_num (x : Int) : strOfNums [x] = ⟨([UInt8.ofNat x.toNat] : List UInt8).toArray⟩ := rfl
theorem digits_l0 : ∀ (m n : Nat) (s : List UInt8), n ≤ m → n < 18446744073709551616 → s.length + Lib.nDigits n ≤ 1000 → Ev (fun k => stockaderef03_digits.l0 k n ⟨s.toArray⟩) ⟨(Lib.decDigits n ++ s).toArray⟩ := by
  intro m
  induction m with
  | zero =>
    intro n s hm hn hs
    obtain rfl : n = 0 := by omega
    refine Ev.step_ (g := fun _ => some ⟨(Lib.decDigits 0 ++ s).toArray⟩) (fun K => ?_) Ev.pure
    rw [stockaderef03_digits.l0, if_neg (by omega)]
    simp only [Option.bind_some]
    rw [if_pos (by rw [strOfNums_size, mk_size]; simp only [List.length_cons, List.length_nil]; omega), one_num, mk_app, Lib.decDigits_one (by omega), wu (by omega) (by omega)]
    rfl
  | succ m ih =>
    intro n s hm hn hs
    by_cases c : n > 9
    · have hb : ¬ n < 10 := by omega
      have ed : Lib.decDigits n = Lib.decDigits (n / 10) ++ [UInt8.ofNat (48 + n % 10)] := by rw [Lib.decDigits, dif_neg hb]
      rw [Lib.nDigits_big hb] at hs
      have h := ih (n / 10) ([UInt8.ofNat (48 + n % 10)] ++ s) (by omega) (by omega) (by simp only [List.length_append, List.length_cons, List.length_nil]; omega)
      rw [ed, List.append_assoc]
      refine Ev.step_ (fun K => ?_) h
      rw [stockaderef03_digits.l0, if_pos (by omega)]
      have e1 : Int.tmod (n : Int) 10 = ((n % 10 : Nat) : Int) := by rw [Int.tmod_eq_emod_of_nonneg (by omega)]; omega
      have e2 : Int.tdiv (n : Int) 10 = ((n / 10 : Nat) : Int) := by rw [Int.tdiv_eq_ediv_of_nonneg (by omega)]; omega
      have e3 : ((48 + ((n % 10 : Nat) : Int)) % 256).toNat = 48 + n % 10 := by omega
      simp only [Option.bind_some, e1, e2]
      rw [if_pos (by rw [strOfNums_size, mk_size]; simp only [List.length_cons, List.length_nil]; omega), one_num, mk_app, wu (by omega) (by omega), wu (by omega) (by omega), e3]
    · refine Ev.step_ (g := fun _ => some ⟨(Lib.decDigits n ++ s).toArray⟩) (fun K => ?_) Ev.pure
      rw [stockaderef03_digits.l0, if_neg (by omega)]
      have e3 : ((48 + (n : Int)) % 256).toNat = 48 + n := by omega
      simp only [Option.bind_some]
      rw [if_pos (by rw [strOfNums_size, mk_size]; simp only [List.length_cons, List.length_nil]; omega), one_num, mk_app, Lib.decDigits_one (by omega), wu (by omega) (by omega), e3]
theorem digits_ev {n : Nat} (h1 : n < 18446744073709551616) : Ev (fun k => stockaderef03_digits.f k (n : Int)) ⟨(Lib.decDigits n).toArray⟩ := by
  have hl := (dec_len h1).2
  rw [Lib.decDigits_length] at hl
  have := digits_l0 n n [] (Nat.le_refl n) h1 (by simp only [List.length_nil]; omega)
  rw [List.append_nil] at this
  exact this
theorem digits_int {n : Int} (h0 : 0 ≤ n) (h1 : n < 18446744073709551616) : Ev (fun k => stockaderef03_digits.f k (IntKind.u64.wrap n)) ⟨(Lib.decDigits n.toNat).toArray⟩ := by
  rw [wu h0 h1]
  have := digits_ev (n := n.toNat) (by omega)
  rwa [Int.toNat_of_nonneg h0] at this
theorem signed_ev {n : Int} (h0 : -2147483648 ≤ n) (h1 : n ≤ 2147483647) : Ev (fun k => stockaderef03_signed.f k n) ⟨(Lib.itoa n).toArray⟩ := by
  by_cases h : n < 0
  · have hd := digits_int (n := -n) (by omega) (by omega)
    have e : (-n).toNat = n.natAbs := by omega
    rw [e] at hd
    have := dec_len (n := n.natAbs) (by omega)
    refine Ev.eqn (fun K => ?_) (Ev.bind_ (g := fun _ (t : ByteArray) => if 1 + t.size ≤ 9223372036854775807 then some ((⟨#[45]⟩ : ByteArray) ++ t) else none) hd ⟨0, fun K _ => ?_⟩)
    · rw [stockaderef03_signed.f, if_pos h, w64 (by omega) (by omega)]
    · rw [mk_size, if_pos (by omega), mk_app, itoa_neg h]; rfl
  · refine Ev.eqn (fun K => ?_) (Ev.bind_ (g := fun _ (t : ByteArray) => some t) (digits_int (n := n) (by omega) (by omega)) ⟨0, fun K _ => ?_⟩)
    · rw [stockaderef03_signed.f, if_neg h]
    · rw [itoa_pos (by omega)]

/-! fill -/
theorem fillB_len {f : Fl} (hf : f.In) (c : UInt8) : (fillB f c).length ≤ 30 := by
  obtain ⟨⟨d0, d1⟩, ⟨s0, s1⟩, ⟨o0, o1⟩, ⟨n0, n1⟩, ⟨h0, h1⟩⟩ := hf
  have ld := itoa_len (n := f.d) (by omega) (by omega)
  have ls := itoa_len (n := f.s) (by omega) (by omega)
  have ln := itoa_len (n := f.n) (by omega) (by omega)
  have lo := offL_len o0 o1
  have lw := (dec_len (wide_lt f)).2
  unfold fillB
  repeat' split
  all_goals (try simp only [List.length_cons, List.length_nil])
  all_goals omega
theorem fillL_len {f : Fl} (hf : f.In) : ∀ p : List UInt8, (fillL f p).length ≤ 30 * p.length := by
  intro p
  induction p with
  | nil => exact Nat.le_refl _
  | cons c p ih =>
    have := fillB_len hf c
    rw [fillL_cons, List.length_append, List.length_cons]; omega
end Go.Proofs.YtondogoepcndiaaDoor.Pure

/- Chapter 03, plain: the document's filled patterns. No conditions but the ones each theorem names. -/
namespace Go.Proofs.YtondogoepcndiaaDoor.Pure
open Go.RowKit Go.Proofs.YtondogoepcndiaaDoorW.PrintWords Go.Proofs.YtondogoepcndiaaDoorW.PrintLast Go.Proofs.YtondogoepcndiaaDoorW.PrintMore Go.Proofs.YtondogoepcndiaaDoor.P
set_option linter.unusedVariables false
set_option linter.unusedSimpArgs false

theorem byteI {x : UInt8} {v : Nat} (hv : v < 256) : (((x.toNat : Nat) : Int) = (v : Int) ↔ x = UInt8.ofNat v) := by
  constructor
  · intro h
    have : x.toNat = v := by omega
    rw [← this]; exact UInt8.ofNat_toNat.symm
  · rintro rfl
    rw [UInt8.toNat_ofNat', Nat.mod_eq_of_lt hv]
theorem wnext {i : Nat} (h : i ≤ 1000000) : wrap64 ((i : Int) + 1) = ((i + 1 : Nat) : Int) := by rw [w64 (by omega) (by omega)]; omega
theorem bLt {n : Nat} (h : n ≤ 1000000) : n ≤ 9223372036854775807 := Nat.le_trans h (by decide)
section
variable {f : Fl} (op : Int) (hf : f.In) (p X : List UInt8) (i : Nat) (hl : i < p.length) (hp : p.length ≤ 1000) (hX : X.length ≤ 100000) (r : ByteArray)
  (hn : Ev (fun k => stockaderef03_fill.l0 k ⟨p.toArray⟩ f.h ⟨(X ++ fillB f p[i]).toArray⟩ ((i + 1 : Nat) : Int) op f.d f.s f.o f.n) r)
include hf hp hX hn
theorem fill_step : Ev (fun k => stockaderef03_fill.l0 k ⟨p.toArray⟩ f.h ⟨X.toArray⟩ (i : Int) op f.d f.s f.o f.n) r := by
  have hb := bt_get hl
  have hs2 := fillB_len hf p[i]
  obtain ⟨⟨d0, d1⟩, ⟨s0, s1⟩, ⟨o0, o1⟩, ⟨n0, n1⟩, ⟨h0, h1⟩⟩ := hf
  have b68 : ((p[i].toNat : Nat) : Int) = 68 ↔ p[i] = 68 := byteI (v := 68) (by decide)
  have b83 : ((p[i].toNat : Nat) : Int) = 83 ↔ p[i] = 83 := byteI (v := 83) (by decide)
  have b79 : ((p[i].toNat : Nat) : Int) = 79 ↔ p[i] = 79 := byteI (v := 79) (by decide)
  have b78 : ((p[i].toNat : Nat) : Int) = 78 ↔ p[i] = 78 := byteI (v := 78) (by decide)
  have b85 : ((p[i].toNat : Nat) : Int) = 85 ↔ p[i] = 85 := byteI (v := 85) (by decide)
  have i0 : (i : Int) < ((⟨p.toArray⟩ : ByteArray).size : Int) := by rw [mk_size]; omega
  have step : ∀ (g : Nat → Option ByteArray) (t : List UInt8), t.length ≤ 30 → X ++ fillB f p[i] = X ++ t → Ev g ⟨t.toArray⟩ →
      Ev (fun K => (g K).bind fun t => if (⟨X.toArray⟩ : ByteArray).size + t.size ≤ 9223372036854775807 then stockaderef03_fill.l0 K ⟨p.toArray⟩ f.h ((⟨X.toArray⟩ : ByteArray) ++ t) (wrap64 ((i : Int) + 1)) op f.d f.s f.o f.n else none) r := by
    intro g t ht he hg
    refine Ev.bind_ hg (Ev.eqn (fun K => ?_) hn)
    rw [mk_size, mk_size, if_pos (by omega), mk_app, wnext (by omega), he]
  have stepC : ∀ (c : UInt8) (g : Nat → Option ByteArray) (t : List UInt8), t.length ≤ 30 → X ++ fillB f p[i] = X ++ c :: t → Ev g ⟨t.toArray⟩ →
      Ev (fun K => (g K).bind fun t => if ((⟨X.toArray⟩ : ByteArray) ++ (⟨#[c]⟩ : ByteArray)).size + t.size ≤ 9223372036854775807 then stockaderef03_fill.l0 K ⟨p.toArray⟩ f.h (((⟨X.toArray⟩ : ByteArray) ++ (⟨#[c]⟩ : ByteArray)) ++ t) (wrap64 ((i : Int) + 1)) op f.d f.s f.o f.n else none) r := by
    intro c g t ht he hg
    refine Ev.bind_ hg (Ev.eqn (fun K => ?_) hn)
    rw [mk_app, mk_size, mk_size, List.length_append, List.length_cons, List.length_nil, if_pos (by omega), mk_app, wnext (by omega), he, List.append_assoc]; rfl
  by_cases c1 : p[i] = 68
  · have e : fillB f p[i] = 114 :: Lib.itoa f.d := by unfold fillB; rw [if_pos c1]
    have hd := digits_int (n := f.d) d0 (by omega)
    rw [← itoa_pos d0] at hd
    refine Ev.step_ (fun K => ?_) (stepC 114 _ _ (by rw [e, List.length_cons] at hs2; omega) (by rw [e]) hd)
    rw [stockaderef03_fill.l0, if_pos i0, if_pos (by omega), hb, if_pos (b68.2 c1), if_pos (by rw [mk_size]; omega)]
  by_cases c2 : p[i] = 83
  · have e : fillB f p[i] = 114 :: Lib.itoa f.s := by unfold fillB; rw [if_neg c1, if_pos c2]
    have hd := digits_int (n := f.s) s0 (by omega)
    rw [← itoa_pos s0] at hd
    refine Ev.step_ (fun K => ?_) (stepC 114 _ _ (by rw [e, List.length_cons] at hs2; omega) (by rw [e]) hd)
    rw [stockaderef03_fill.l0, if_pos i0, if_pos (by omega), hb, if_neg (fun h => c1 (b68.1 h)), if_pos (b83.2 c2), if_pos (by rw [mk_size]; omega)]
  by_cases c3 : p[i] = 79
  · have e : fillB f p[i] = offL f.o := by unfold fillB; rw [if_neg c1, if_neg c2, if_pos c3]
    have hd := signed_ev (n := f.o) (by omega) (by omega)
    by_cases ho : f.o < 0
    · rw [offL, if_pos ho] at e
      refine Ev.step_ (fun K => ?_) (step _ _ (by rw [e] at hs2; omega) (by rw [e]) hd)
      rw [stockaderef03_fill.l0, if_pos i0, if_pos (by omega), hb, if_neg (fun h => c1 (b68.1 h)), if_neg (fun h => c2 (b83.1 h)), if_pos (b79.2 c3), if_neg (by omega), w64 (n := f.o) (by omega) (by omega)]
    · rw [offL, if_neg ho] at e
      refine Ev.step_ (fun K => ?_) (stepC 43 _ _ (by rw [e, List.length_cons] at hs2; omega) (by rw [e]) hd)
      rw [stockaderef03_fill.l0, if_pos i0, if_pos (by omega), hb, if_neg (fun h => c1 (b68.1 h)), if_neg (fun h => c2 (b83.1 h)), if_pos (b79.2 c3), if_pos (by omega), if_pos (by rw [mk_size]; omega), w64 (n := f.o) (by omega) (by omega)]
  by_cases c4 : p[i] = 78
  · have e : fillB f p[i] = Lib.itoa f.n := by unfold fillB; rw [if_neg c1, if_neg c2, if_neg c3, if_pos c4]
    have hd := signed_ev (n := f.n) (by omega) (by omega)
    refine Ev.step_ (fun K => ?_) (step _ _ (by rw [e] at hs2; omega) (by rw [e]) hd)
    rw [stockaderef03_fill.l0, if_pos i0, if_pos (by omega), hb, if_neg (fun h => c1 (b68.1 h)), if_neg (fun h => c2 (b83.1 h)), if_neg (fun h => c3 (b79.1 h)), if_pos (b78.2 c4), w64 (n := f.n) (by omega) (by omega)]
  by_cases c5 : p[i] = 85
  · have e : fillB f p[i] = Lib.decDigits (wideN f) := by unfold fillB; rw [if_neg c1, if_neg c2, if_neg c3, if_neg c4, if_pos c5]
    have hd := digits_ev (wide_lt f)
    have ew : ((wideN f : Nat) : Int) = (f.h % 4294967296) * 4294967296 + f.n % 4294967296 := by unfold wideN; omega
    rw [ew] at hd
    refine Ev.step_ (fun K => ?_) (step _ _ (by rw [e] at hs2; omega) (by rw [e]) hd)
    rw [stockaderef03_fill.l0, if_pos i0, if_pos (by omega), hb, if_neg (fun h => c1 (b68.1 h)), if_neg (fun h => c2 (b83.1 h)), if_neg (fun h => c3 (b79.1 h)), if_neg (fun h => c4 (b78.1 h)), if_pos (b85.2 c5)]
  have e : fillB f p[i] = [p[i]] := by unfold fillB; rw [if_neg c1, if_neg c2, if_neg c3, if_neg c4, if_neg c5]
  refine Ev.step_ (fun K => ?_) hn
  have ex : (⟨p.toArray⟩ : ByteArray).extract ((i : Int)).toNat (((i + 1 : Nat) : Int)).toNat = ⟨[p[i]].toArray⟩ := by
    rw [extr, Int.toNat_natCast, Int.toNat_natCast, show i + 1 - i = 1 by omega, List.drop_eq_getElem_cons hl]; rfl
  rw [stockaderef03_fill.l0, if_pos i0, if_pos (by omega), hb, if_neg (fun h => c1 (b68.1 h)), if_neg (fun h => c2 (b83.1 h)), if_neg (fun h => c3 (b79.1 h)), if_neg (fun h => c4 (b78.1 h)), if_neg (fun h => c5 (b85.1 h)), wnext (by omega), if_pos (by omega), if_pos (by rw [mk_size]; omega), ex, mk_size, mk_size, if_pos (by simp only [List.length_cons, List.length_nil]; omega), mk_app, e]
end
theorem fill_l0 {f : Fl} (op : Int) (hf : f.In) (p : List UInt8) (hp : p.length ≤ 1000) : ∀ (n i : Nat), i + n = p.length →
    Ev (fun k => stockaderef03_fill.l0 k ⟨p.toArray⟩ f.h ⟨(fillL f (p.take i)).toArray⟩ (i : Int) op f.d f.s f.o f.n) ⟨(fillL f p).toArray⟩ := by
  intro n
  induction n with
  | zero =>
    intro i hi
    refine Ev.step_ (g := fun _ => some ⟨(fillL f p).toArray⟩) (fun K => ?_) Ev.pure
    rw [stockaderef03_fill.l0, if_neg (by rw [mk_size]; omega), List.take_of_length_le (by omega)]
  | succ n ih =>
    intro i hi
    have hl : i < p.length := by omega
    have hn := ih (i + 1) (by omega)
    rw [List.take_succ_eq_append_getElem hl, fillL_app, fillL_cons, fillL_nil, List.append_nil] at hn
    have hs := fillL_len hf (p.take i)
    rw [List.length_take] at hs
    exact fill_step op hf p (fillL f (p.take i)) i hl hp (by omega) _ hn
theorem fill_ev {f : Fl} (op : Int) (hf : f.In) (p : List UInt8) (hp : p.length ≤ 1000) : Ev (fun k => stockaderef03_fill.f k ⟨p.toArray⟩ op f.d f.s f.o f.n f.h) ⟨(fillL f p).toArray⟩ :=
  fill_l0 op hf p hp p.length 0 (by omega)
theorem pat_len {w : W5} (hw : IsRow w) : (patL w).length ≤ 40 :=
  of_decide_eq_true (isRow_all (p := fun w => decide ((patL w).length ≤ 40)) (by decide +kernel) hw)
theorem lineL_len {w : W5} (hw : IsRow w) {f : Fl} (hf : f.In) : (lineL w f).length ≤ 1200 := by
  have := fillL_len hf (patL w)
  have := pat_len hw
  rw [← fill_pat hw f]; omega
/-- The document's line. -/
theorem refline_ev {w : W5} (hw : IsRow w) {f : Fl} (op : Int) (hf : f.In) : Ev (fun k => (stockaderef03_Pattern.f k w.1 w.2.1 w.2.2.1 w.2.2.2.1 w.2.2.2.2).bind fun p => stockaderef03_fill.f k p op f.d f.s f.o f.n f.h) ⟨(lineL w f).toArray⟩ := by
  rw [← fill_pat hw f]
  exact Ev.bind_ (Ev.eq_ 8 (Pattern_eq hw)) (fill_ev op hf (patL w) (by have := pat_len hw; omega))
end Go.Proofs.YtondogoepcndiaaDoor.Pure

/- Chapter 03, plain: what Of and Print come to. No conditions but the ones each theorem names. -/
namespace Go.Proofs.YtondogoepcndiaaDoor.Pure
open Go.RowKit Go.Proofs.YtondogoepcndiaaDoorW.PrintWords Go.Proofs.YtondogoepcndiaaDoorW.PrintLast Go.Proofs.YtondogoepcndiaaDoorW.PrintMore Go.Proofs.YtondogoepcndiaaDoor.P
set_option linter.unusedVariables false
set_option linter.unusedSimpArgs false

def kOf (w : W5) (r : Int) : Int × Int × Int × Bool × Bool × Int := (w.1, w.2.1, w.2.2.1, w.2.2.2.1, w.2.2.2.2, r)
def bad1 (f : Bool × Bool × Bool × Bool × Bool) (dst src : Int) : Prop := f.1 = true ∧ dst > 10 ∨ f.2.1 = true ∧ dst = 10 ∨ f.2.2.1 = true ∧ src > 10
def bad2 (f : Bool × Bool × Bool × Bool × Bool) (c dst src off imm : Int) : Prop := f.1 = false ∧ dst ≠ 0 ∨ f.2.2.1 = false ∧ src ≠ 0 ∧ c ≠ 11 ∨ f.2.2.2.1 = false ∧ off ≠ 0 ∨ f.2.2.2.2 = false ∧ imm ≠ 0
theorem of_cases (op dst src off imm : Int) :
    ofV op dst src off imm = (0, 0, 0, false, false, 20) ∧ (kindV op src imm).1 = 0 ∨ ofV op dst src off imm = (0, 0, 0, false, false, 21) ∧ (kindV op src imm).1 ≠ 0 ∨ ofV op dst src off imm = (0, 0, 0, false, false, 22) ∧ (kindV op src imm).1 ≠ 0 ∨
      ofV op dst src off imm = kOf (kindV op src imm) 0 ∧ (kindV op src imm).1 ≠ 0 ∧ ¬ bad1 (fieldsV (kindV op src imm)) dst src ∧ ¬ bad2 (fieldsV (kindV op src imm)) (kindV op src imm).1 dst src off imm := by
  unfold ofV kOf bad1 bad2
  by_cases h0 : (kindV op src imm).1 = 0
  · left; exact ⟨by rw [if_pos h0], h0⟩
  · right
    by_cases h1 : (fieldsV (kindV op src imm)).1 = true ∧ dst > 10 ∨ (fieldsV (kindV op src imm)).2.1 = true ∧ dst = 10 ∨ (fieldsV (kindV op src imm)).2.2.1 = true ∧ src > 10
    · left; exact ⟨by rw [if_neg h0, if_pos h1], h0⟩
    · right
      by_cases h2 : (fieldsV (kindV op src imm)).1 = false ∧ dst ≠ 0 ∨ (fieldsV (kindV op src imm)).2.2.1 = false ∧ src ≠ 0 ∧ (kindV op src imm).1 ≠ 11 ∨ (fieldsV (kindV op src imm)).2.2.2.1 = false ∧ off ≠ 0 ∨ (fieldsV (kindV op src imm)).2.2.2.2 = false ∧ imm ≠ 0
      · left; exact ⟨by rw [if_neg h0, if_neg h1, if_pos h2], h0⟩
      · right; exact ⟨by rw [if_neg h0, if_neg h1, if_neg h2], h0, h1, h2⟩
theorem of_ok {op dst src off imm : Int} (h : (ofV op dst src off imm).2.2.2.2.2 = 0) :
    ofV op dst src off imm = kOf (kindV op src imm) 0 ∧ (kindV op src imm).1 ≠ 0 ∧ ¬ bad1 (fieldsV (kindV op src imm)) dst src ∧ ¬ bad2 (fieldsV (kindV op src imm)) (kindV op src imm).1 dst src off imm := by
  rcases of_cases op dst src off imm with h' | h' | h' | h'
  · rw [h'.1] at h; exact absurd h (by decide)
  · rw [h'.1] at h; exact absurd h (by decide)
  · rw [h'.1] at h; exact absurd h (by decide)
  · exact h'
theorem of_no {op dst src off imm : Int} (h : (ofV op dst src off imm).2.2.2.2.2 ≠ 0) : ∃ r, ofV op dst src off imm = (0, 0, 0, false, false, r) ∧ r ≠ 0 := by
  rcases of_cases op dst src off imm with h' | h' | h' | h'
  · exact ⟨20, h'.1, by decide⟩
  · exact ⟨21, h'.1, by decide⟩
  · exact ⟨22, h'.1, by decide⟩
  · rw [h'.1] at h; exact absurd rfl h

/-- An instruction's fields are in their types' bounds. -/
def Tyd (x : S37) : Prop := (0 ≤ x.f0 ∧ x.f0 ≤ 255) ∧ (0 ≤ x.f1 ∧ x.f1 ≤ 255) ∧ (0 ≤ x.f2 ∧ x.f2 ≤ 255) ∧ (-32768 ≤ x.f3 ∧ x.f3 ≤ 32767) ∧ (-2147483648 ≤ x.f4 ∧ x.f4 ≤ 2147483647)
def ofX (x : S37) : Int × Int × Int × Bool × Bool × Int := ofV x.f0 x.f1 x.f2 x.f3 x.f4
def wX (x : S37) : W5 := ((ofX x).1, (ofX x).2.1, (ofX x).2.2.1, (ofX x).2.2.2.1, (ofX x).2.2.2.2.1)
def flX (x : S37) (h : Int) : Fl := ⟨x.f1, x.f2, x.f3, x.f4, h⟩
theorem flX_in {x : S37} (hx : Tyd x) {h : Int} (h0 : -2147483648 ≤ h) (h1 : h ≤ 2147483647) : (flX x h).In := ⟨hx.2.1, hx.2.2.1, hx.2.2.2.1, hx.2.2.2.2, h0, h1⟩
theorem Of_ev {x : S37} (hx : Tyd x) : Ev (fun k => insn_Of.f k x.f0 x.f1 x.f2 x.f3 x.f4) (ofX x) :=
  Ev.eq_ 4 fun k => Of_eq k hx.1.1 hx.1.2 hx.2.2.1.1 hx.2.2.1.2 hx.2.2.2.2.1 hx.2.2.2.2.2
theorem refOf_ev {x : S37} (hx : Tyd x) : Ev (fun k => stockaderef02_Of.f k x.f0 x.f1 x.f2 x.f3 x.f4) (ofX x) :=
  Ev.eq_ 200 fun k => refOf_eq k hx.1.1 hx.1.2 hx.2.1.1 hx.2.2.1.1 hx.2.2.1.2 hx.2.2.2.2.1 hx.2.2.2.2.2
theorem of_row {x : S37} (hx : Tyd x) (h : (ofX x).2.2.2.2.2 = 0) : IsRow (wX x) ∧ wX x = kindV x.f0 x.f2 x.f4 := by
  obtain ⟨e, hz, _⟩ := of_ok h
  have e2 : wX x = kindV x.f0 x.f2 x.f4 := by unfold wX ofX; rw [e]; rfl
  refine ⟨?_, e2⟩
  rw [e2]
  rcases kind_row (op := x.f0) (s := x.f2) (i := x.f4) hx.1 hx.2.2.1 with h' | h'
  · rw [h'] at hz; exact absurd rfl hz
  · exact h'

/-! Print -/
def halfOk (c : Int) (y : S37) : Prop := y.f0 = 0 ∧ y.f1 = 0 ∧ y.f2 = 0 ∧ y.f3 = 0 ∧ (c = 11 → y.f4 = 0)
instance (c : Int) (y : S37) : Decidable (halfOk c y) := by unfold halfOk; infer_instance
def printR : List S37 → List UInt8 → List UInt8 × Int
  | [], acc => (acc, 0)
  | x :: t, acc => if (ofX x).2.2.2.2.2 = 0 then
      (if (ofX x).1 ≥ 10 then (match t with
        | [] => ([], 23)
        | y :: t' => if halfOk (ofX x).1 y then printR t' (acc ++ lineL (wX x) (flX x y.f4) ++ [10]) else ([], 23))
      else printR t (acc ++ lineL (wX x) (flX x 0) ++ [10]))
    else ([], (ofX x).2.2.2.2.2)
def printV (l : List S37) : List UInt8 × Int := if l.length > 512 then ([], 3) else printR l []
def asB (r : List UInt8 × Int) : ByteArray × Int := (⟨r.1.toArray⟩, r.2)
theorem rd37 {l : List S37} {i : Nat} (h : i < l.length) : rd_T37 l (i : Int) = l[i] := by
  unfold rd_T37
  rw [Int.toNat_natCast, List.getD_eq_getElem?_getD, List.getElem?_eq_getElem h]; rfl
theorem dropC {α : Type} {l : List α} {i : Nat} (h : i < l.length) : l.drop i = l[i] :: l.drop (i + 1) := List.drop_eq_getElem_cons h
end Go.Proofs.YtondogoepcndiaaDoor.Pure

/- Chapter 03, plain: the program's Print and the document's Print answer alike. No conditions but the ones each theorem names. -/
namespace Go.Proofs.YtondogoepcndiaaDoor.Pure
open Go.RowKit Go.Proofs.YtondogoepcndiaaDoorW.PrintWords Go.Proofs.YtondogoepcndiaaDoorW.PrintLast Go.Proofs.YtondogoepcndiaaDoorW.PrintMore Go.Proofs.YtondogoepcndiaaDoor.P
set_option linter.unusedVariables false
set_option linter.unusedSimpArgs false

theorem line_ev {x : S37} (hx : Tyd x) (h : (ofX x).2.2.2.2.2 = 0) {i : Int} (h0 : -2147483648 ≤ i) (h1 : i ≤ 2147483647) :
    Ev (fun k => asm_line.f k (ofX x).1 (ofX x).2.1 (ofX x).2.2.1 (ofX x).2.2.2.1 (ofX x).2.2.2.2.1 x.f0 x.f1 x.f2 x.f3 x.f4 i) ⟨(lineL (wX x) (flX x i)).toArray⟩ :=
  Ev.eq_ 2 fun k => line_eq (wX x) (flX x i) x.f0 (flX_in hx h0 h1) (of_row hx h).1 k
theorem rline_ev {x : S37} (hx : Tyd x) (h : (ofX x).2.2.2.2.2 = 0) {i : Int} (h0 : -2147483648 ≤ i) (h1 : i ≤ 2147483647) {g : Nat → ByteArray → Option (ByteArray × Int)} {r : ByteArray × Int}
    (hg : Ev (fun k => g k ⟨(lineL (wX x) (flX x i)).toArray⟩) r) :
    Ev (fun k => (stockaderef03_Pattern.f k (ofX x).1 (ofX x).2.1 (ofX x).2.2.1 (ofX x).2.2.2.1 (ofX x).2.2.2.2.1).bind fun t => (stockaderef03_fill.f k t x.f0 x.f1 x.f2 x.f3 x.f4 i).bind fun t2 => g k t2) r := by
  have := Ev.bind_ (refline_ev (of_row hx h).1 x.f0 (flX_in hx h0 h1)) hg
  refine Ev.eqn (fun K => ?_) this
  show _ = (Option.bind (Option.bind _ _) _)
  rw [Option.bind_assoc]; rfl
/-- The end of a round: the line and its newline behind the text. -/
theorem put_ev {acc L : List UInt8} (M : Nat) (hM : acc.length + L.length + 1 ≤ M) {g : Nat → ByteArray → Option (ByteArray × Int)} {r : ByteArray × Int}
    (hg : Ev (fun k => g k ⟨(acc ++ L ++ [10]).toArray⟩) r) :
    Ev (fun k => if (⟨acc.toArray⟩ : ByteArray).size + (⟨L.toArray⟩ : ByteArray).size ≤ M then (if ((⟨acc.toArray⟩ : ByteArray) ++ (⟨L.toArray⟩ : ByteArray)).size + 1 ≤ M then g k (((⟨acc.toArray⟩ : ByteArray) ++ ⟨L.toArray⟩) ++ (⟨#[10]⟩ : ByteArray)) else none) else none) r := by
  refine Ev.eqn (fun K => ?_) hg
  rw [mk_size, mk_size, if_pos (by omega), mk_app, mk_size, List.length_append, if_pos (by omega), mk_app]
theorem printR_bad (x : S37) (t : List S37) (acc : List UInt8) (h : ¬ (ofX x).2.2.2.2.2 = 0) : printR (x :: t) acc = ([], (ofX x).2.2.2.2.2) := by
  rw [printR.eq_def]; simp only [h, if_false]
theorem printR_one (x : S37) (t : List S37) (acc : List UInt8) (h : (ofX x).2.2.2.2.2 = 0) (hw : ¬ (ofX x).1 ≥ 10) : printR (x :: t) acc = printR t (acc ++ lineL (wX x) (flX x 0) ++ [10]) := by
  rw [printR.eq_def]; simp only [h, hw, if_true, if_false]
theorem printR_end (x : S37) (acc : List UInt8) (h : (ofX x).2.2.2.2.2 = 0) (hw : (ofX x).1 ≥ 10) : printR [x] acc = ([], 23) := by
  rw [printR.eq_def]; simp only [h, hw, if_true]
theorem printR_two (x y : S37) (t : List S37) (acc : List UInt8) (h : (ofX x).2.2.2.2.2 = 0) (hw : (ofX x).1 ≥ 10) : printR (x :: y :: t) acc = if halfOk (ofX x).1 y then printR t (acc ++ lineL (wX x) (flX x y.f4) ++ [10]) else ([], 23) := by
  rw [printR.eq_def]; simp only [h, hw, if_true]
theorem print_l0 (l : List S37) (ht : ∀ x ∈ l, Tyd x) (hl : l.length ≤ 512) : ∀ (n i : Nat) (acc : List UInt8), l.length - i ≤ n → i ≤ l.length → acc.length ≤ 1300 * i →
    Ev (fun k => asm_Print.l0 k l ⟨acc.toArray⟩ (i : Int)) (asB (printR (l.drop i) acc)) := by
  intro n
  induction n with
  | zero =>
    intro i acc hn hi ha
    rw [List.drop_eq_nil_of_le (by omega)]
    refine Ev.step_ (g := fun _ => some (asB (acc, 0))) (fun K => ?_) Ev.pure
    rw [asm_Print.l0, if_neg (by omega)]; rfl
  | succ n ih =>
    intro i acc hn hi ha
    by_cases he : i = l.length
    · rw [List.drop_eq_nil_of_le (by omega)]
      refine Ev.step_ (g := fun _ => some (asB (acc, 0))) (fun K => ?_) Ev.pure
      rw [asm_Print.l0, if_neg (by omega)]; rfl
    have hlt : i < l.length := by omega
    have hx := ht _ (List.getElem_mem hlt)
    rw [dropC hlt]
    generalize hxe : l[i] = x at hx
    have hr : rd_T37 l (i : Int) = x := by rw [rd37 hlt, hxe]
    apply Ev.step_
    · intro K
      rw [asm_Print.l0, if_pos (by omega), if_pos (by omega), hr]
    refine Ev.bind_ (Of_ev hx) ?_
    by_cases h0 : (ofX x).2.2.2.2.2 = 0
    · have hrow := (of_row hx h0).1
      have hc := rows_in hrow
      have hc1 : (ofX x).1 ≤ 11 := hc.2.1
      by_cases hw : (ofX x).1 ≥ 10
      · have hj : ∀ r, Ev (fun k => asm_Print.j1 k l ⟨acc.toArray⟩ (i : Int) 0 true x.f0 x.f1 x.f2 x.f3 x.f4 (ofX x).1 (ofX x).2.1 (ofX x).2.2.1 (ofX x).2.2.2.1 (ofX x).2.2.2.2.1) r → Ev (fun k => if (ofX x).2.2.2.2.2 = 0 then (if (ofX x).1 = 10 then (asm_Print.j1 k l ⟨acc.toArray⟩ (i : Int) 0 true x.f0 x.f1 x.f2 x.f3 x.f4 (ofX x).1 (ofX x).2.1 (ofX x).2.2.1 (ofX x).2.2.2.1 (ofX x).2.2.2.2.1) else (asm_Print.j1 k l ⟨acc.toArray⟩ (i : Int) 0 ((ofX x).1 == 11) x.f0 x.f1 x.f2 x.f3 x.f4 (ofX x).1 (ofX x).2.1 (ofX x).2.2.1 (ofX x).2.2.2.1 (ofX x).2.2.2.2.1)) else (some ((⟨#[]⟩ : ByteArray), (ofX x).2.2.2.2.2))) r := by
          intro r hr
          refine Ev.eqn (fun K => ?_) hr
          rw [if_pos h0]
          by_cases h10 : (ofX x).1 = 10
          · rw [if_pos h10]
          · rw [if_neg h10, show ((ofX x).1 == 11) = true from beq_iff_eq.2 (by omega)]
        refine hj _ ?_
        by_cases hl1 : i + 1 = l.length
        · rw [List.drop_eq_nil_of_le (by omega), printR_end x acc h0 hw]
          refine Ev.step_ (g := fun _ => some (asB ([], 23))) (fun K => ?_) Ev.pure
          rw [asm_Print.j1, if_pos rfl, if_pos (by rw [wnext (by omega)]; omega)]; rfl
        · have hlt1 : i + 1 < l.length := by omega
          have hy := ht _ (List.getElem_mem hlt1)
          rw [dropC hlt1]
          generalize hye : l[i + 1] = y at hy
          rw [printR_two x y _ acc h0 hw]
          have hry : rd_T37 l ((i + 1 : Nat) : Int) = y := by rw [rd37 hlt1, hye]
          have hle := line_ev hx h0 (i := y.f4) hy.2.2.2.2.1 hy.2.2.2.2.2
          have hlen := lineL_len hrow (f := flX x y.f4) (flX_in hx hy.2.2.2.2.1 hy.2.2.2.2.2)
          have hfin : Ev (fun k => (asm_line.f k (ofX x).1 (ofX x).2.1 (ofX x).2.2.1 (ofX x).2.2.2.1 (ofX x).2.2.2.2.1 x.f0 x.f1 x.f2 x.f3 x.f4 y.f4).bind fun t176 => (if (⟨acc.toArray⟩ : ByteArray).size + t176.size ≤ 140737488355328 then (if ((⟨acc.toArray⟩ : ByteArray) ++ t176).size + 1 ≤ 140737488355328 then (asm_Print.l0 k l (((⟨acc.toArray⟩ : ByteArray) ++ t176) ++ (⟨#[10]⟩ : ByteArray)) ((i + 1 + 1 : Nat) : Int)) else (none)) else (none))) (asB (printR (l.drop (i + 1 + 1)) (acc ++ lineL (wX x) (flX x y.f4) ++ [10]))) := by
            refine Ev.bind_ hle (put_ev (g := fun k b => asm_Print.l0 k l b ((i + 1 + 1 : Nat) : Int)) _ (by omega) (ih (i + 1 + 1) _ (by omega) (by omega) ?_))
            simp only [List.length_append, List.length_cons, List.length_nil]; omega
          by_cases hh : halfOk (ofX x).1 y
          · have hh' := hh
            obtain ⟨q0, q1, q2, q3, q4⟩ := hh'
            rw [if_pos hh]
            refine Ev.step_ (fun K => ?_) hfin
            rw [asm_Print.j1, if_pos rfl, wnext (i := i) (by omega), if_neg (by omega), if_pos (by omega), if_pos (by omega), hry, wnext (by omega), q0, q1, q2, q3, if_neg (by decide)]
            by_cases h11 : (ofX x).1 = 11
            · rw [if_pos h11, if_pos (q4 h11)]
            · rw [if_neg h11]
          · rw [if_neg hh]
            refine Ev.step_ (g := fun _ => some (asB ([], 23))) (fun K => ?_) Ev.pure
            rw [asm_Print.j1, if_pos rfl, wnext (by omega), if_neg (by omega), if_pos (by omega), if_pos (by omega), hry]
            by_cases hz : y.f0 = 0 ∧ y.f1 = 0 ∧ y.f2 = 0 ∧ y.f3 = 0
            · obtain ⟨q0, q1, q2, q3⟩ := hz
              have h11 : (ofX x).1 = 11 ∧ ¬ y.f4 = 0 := by
                refine Decidable.byContradiction fun hn => hh ⟨q0, q1, q2, q3, fun e => Decidable.byContradiction fun h4 => hn ⟨e, h4⟩⟩
              rw [q0, q1, q2, q3, if_neg (by decide), if_pos h11.1, if_neg h11.2]; rfl
            · rw [if_pos (by
                simp only [Bool.or_eq_true, Bool.not_eq_true', beq_eq_false_iff_ne]
                refine Decidable.byContradiction fun hn => hz ?_
                simp only [not_or, Decidable.not_not, ne_eq] at hn
                exact ⟨hn.1, hn.2.1, hn.2.2.1, hn.2.2.2⟩)]; rfl
      · have hle := line_ev hx h0 (i := 0) (by omega) (by omega)
        have hlen := lineL_len hrow (f := flX x 0) (flX_in hx (by omega) (by omega))
        rw [printR_one x _ acc h0 hw]
        have hfin : Ev (fun k => (asm_line.f k (ofX x).1 (ofX x).2.1 (ofX x).2.2.1 (ofX x).2.2.2.1 (ofX x).2.2.2.2.1 x.f0 x.f1 x.f2 x.f3 x.f4 0).bind fun t176 => (if (⟨acc.toArray⟩ : ByteArray).size + t176.size ≤ 140737488355328 then (if ((⟨acc.toArray⟩ : ByteArray) ++ t176).size + 1 ≤ 140737488355328 then (asm_Print.l0 k l (((⟨acc.toArray⟩ : ByteArray) ++ t176) ++ (⟨#[10]⟩ : ByteArray)) ((i + 1 : Nat) : Int)) else (none)) else (none))) (asB (printR (l.drop (i + 1)) (acc ++ lineL (wX x) (flX x 0) ++ [10]))) := by
          refine Ev.bind_ hle (put_ev (g := fun k b => asm_Print.l0 k l b ((i + 1 : Nat) : Int)) _ (by omega) (ih (i + 1) _ (by omega) (by omega) ?_))
          simp only [List.length_append, List.length_cons, List.length_nil]; omega
        refine Ev.step_ (fun K => ?_) hfin
        rw [if_pos h0, if_neg (by omega), show ((ofX x).1 == 11) = false from beq_eq_false_iff_ne.2 (by omega), asm_Print.j1, if_neg (by decide), wnext (by omega)]
    · rw [printR_bad x _ acc h0]
      exact Ev.eqn (fun K => if_neg h0) Ev.pure
theorem print_ev (l : List S37) (ht : ∀ x ∈ l, Tyd x) : Ev (fun k => asm_Print.f k l) (asB (printV l)) := by
  unfold asm_Print.f printV
  by_cases h : l.length > 512
  · rw [if_pos h]
    exact Ev.eqn (fun K => if_pos (by omega)) Ev.pure
  · rw [if_neg h]
    exact Ev.eqn (fun K => if_neg (by omega)) (print_l0 l ht (by omega) l.length 0 [] (by omega) (by omega) (by simp))
/-! the document's Print -/
theorem rprint_l0 (l : List S37) (ht : ∀ x ∈ l, Tyd x) (hl : l.length ≤ 512) : ∀ (n i : Nat) (acc : List UInt8), l.length - i ≤ n → i ≤ l.length → acc.length ≤ 1300 * i →
    Ev (fun k => stockaderef03_Print.l0 k l ⟨acc.toArray⟩ (i : Int)) (asB (printR (l.drop i) acc)) := by
  intro n
  induction n with
  | zero =>
    intro i acc hn hi ha
    rw [List.drop_eq_nil_of_le (by omega)]
    refine Ev.step_ (g := fun _ => some (asB (acc, 0))) (fun K => ?_) Ev.pure
    rw [stockaderef03_Print.l0, if_neg (by omega)]; rfl
  | succ n ih =>
    intro i acc hn hi ha
    by_cases he : i = l.length
    · rw [List.drop_eq_nil_of_le (by omega)]
      refine Ev.step_ (g := fun _ => some (asB (acc, 0))) (fun K => ?_) Ev.pure
      rw [stockaderef03_Print.l0, if_neg (by omega)]; rfl
    have hlt : i < l.length := by omega
    have hx := ht _ (List.getElem_mem hlt)
    rw [dropC hlt]
    generalize hxe : l[i] = x at hx
    have hr : rd_T37 l (i : Int) = x := by rw [rd37 hlt, hxe]
    apply Ev.step_
    · intro K
      rw [stockaderef03_Print.l0, if_pos (by omega), if_pos (by omega), hr]
    refine Ev.bind_ (refOf_ev hx) ?_
    by_cases h0 : (ofX x).2.2.2.2.2 = 0
    · have hrow := (of_row hx h0).1
      have hc := rows_in hrow
      have hc1 : (ofX x).1 ≤ 11 := hc.2.1
      by_cases hw : (ofX x).1 ≥ 10
      · by_cases hl1 : i + 1 = l.length
        · rw [List.drop_eq_nil_of_le (by omega), printR_end x acc h0 hw]
          refine Ev.eqn (g := fun _ => some (asB ([], 23))) (fun K => ?_) Ev.pure
          rw [if_pos h0, if_pos hw, wnext (by omega), if_pos (by omega)]; rfl
        · have hlt1 : i + 1 < l.length := by omega
          have hy := ht _ (List.getElem_mem hlt1)
          rw [dropC hlt1]
          generalize hye : l[i + 1] = y at hy
          rw [printR_two x y _ acc h0 hw]
          have hry : rd_T37 l ((i + 1 : Nat) : Int) = y := by rw [rd37 hlt1, hye]
          have hlen := lineL_len hrow (f := flX x y.f4) (flX_in hx hy.2.2.2.2.1 hy.2.2.2.2.2)
          have hfin : Ev (fun k => stockaderef03_Print.j1 k l ⟨acc.toArray⟩ ((i + 1 : Nat) : Int) false x.f0 x.f1 x.f2 x.f3 x.f4 (ofX x).1 (ofX x).2.1 (ofX x).2.2.1 (ofX x).2.2.2.1 (ofX x).2.2.2.2.1 y.f0 y.f1 y.f2 y.f3 y.f4) (asB (printR (l.drop (i + 1 + 1)) (acc ++ lineL (wX x) (flX x y.f4) ++ [10]))) := by
            apply Ev.step_
            · intro K
              rw [stockaderef03_Print.j1, if_neg (by decide), wnext (by omega)]
            refine rline_ev hx h0 hy.2.2.2.2.1 hy.2.2.2.2.2 (put_ev (g := fun k b => stockaderef03_Print.l0 k l b ((i + 1 + 1 : Nat) : Int)) _ (by omega) (ih (i + 1 + 1) _ (by omega) (by omega) ?_))
            simp only [List.length_append, List.length_cons, List.length_nil]; omega
          have hbad : Ev (fun k => stockaderef03_Print.j1 k l ⟨acc.toArray⟩ ((i + 1 : Nat) : Int) true x.f0 x.f1 x.f2 x.f3 x.f4 (ofX x).1 (ofX x).2.1 (ofX x).2.2.1 (ofX x).2.2.2.1 (ofX x).2.2.2.2.1 y.f0 y.f1 y.f2 y.f3 y.f4) (asB ([], 23)) := by
            refine Ev.step_ (g := fun _ => some (asB ([], 23))) (fun K => ?_) Ev.pure
            rw [stockaderef03_Print.j1, if_pos rfl]; rfl
          by_cases hh : halfOk (ofX x).1 y
          · have hh' := hh
            obtain ⟨q0, q1, q2, q3, q4⟩ := hh'
            rw [if_pos hh]
            refine Ev.eqn (fun K => ?_) hfin
            rw [if_pos h0, if_pos hw, wnext (i := i) (by omega), if_neg (by omega), if_pos (by omega), if_pos (by omega), hry, if_pos q0, if_pos q1, if_pos q2, if_pos q3]
            by_cases h11 : (ofX x).1 = 11
            · rw [if_pos h11, q4 h11]; rfl
            · rw [if_neg h11]
          · rw [if_neg hh]
            refine Ev.eqn (fun K => ?_) hbad
            rw [if_pos h0, if_pos hw, wnext (i := i) (by omega), if_neg (by omega), if_pos (by omega), if_pos (by omega), hry]
            by_cases q0 : y.f0 = 0
            · rw [if_pos q0]
              by_cases q1 : y.f1 = 0
              · rw [if_pos q1]
                by_cases q2 : y.f2 = 0
                · rw [if_pos q2]
                  by_cases q3 : y.f3 = 0
                  · rw [if_pos q3]
                    have h11 : (ofX x).1 = 11 ∧ ¬ y.f4 = 0 := Decidable.byContradiction fun hn => hh ⟨q0, q1, q2, q3, fun e => Decidable.byContradiction fun h4 => hn ⟨e, h4⟩⟩
                    rw [if_pos h11.1, show (y.f4 != 0) = true from bne_iff_ne.2 h11.2]
                  · rw [if_neg q3]
                · rw [if_neg q2]
              · rw [if_neg q1]
            · rw [if_neg q0]
      · have hlen := lineL_len hrow (f := flX x 0) (flX_in hx (by omega) (by omega))
        rw [printR_one x _ acc h0 hw]
        apply Ev.eqn
        · intro K
          rw [if_pos h0, if_neg hw, wnext (by omega)]
        refine rline_ev hx h0 (by omega) (by omega) (put_ev (g := fun k b => stockaderef03_Print.l0 k l b ((i + 1 : Nat) : Int)) _ (by omega) (ih (i + 1) _ (by omega) (by omega) ?_))
        simp only [List.length_append, List.length_cons, List.length_nil]; omega
    · rw [printR_bad x _ acc h0]
      exact Ev.eqn (fun K => if_neg h0) Ev.pure
theorem rprint_ev (l : List S37) (ht : ∀ x ∈ l, Tyd x) : Ev (fun k => stockaderef03_Print.f k l) (asB (printV l)) := by
  unfold stockaderef03_Print.f printV
  by_cases h : l.length > 512
  · rw [if_pos h]
    exact Ev.eqn (fun K => if_pos (by omega)) Ev.pure
  · rw [if_neg h]
    exact Ev.eqn (fun K => if_neg (by omega)) (rprint_l0 l ht (by omega) l.length 0 [] (by omega) (by omega) (by simp))
end Go.Proofs.YtondogoepcndiaaDoor.Pure

/- Chapter 03, plain: the rows that each law asks first. No conditions but the ones each theorem names. -/
namespace Go.Proofs.YtondogoepcndiaaDoor.Pure
open Go.RowKit Go.Proofs.YtondogoepcndiaaDoorW.PrintWords Go.Proofs.YtondogoepcndiaaDoorW.PrintLast Go.Proofs.YtondogoepcndiaaDoorW.PrintMore Go.Proofs.YtondogoepcndiaaDoor.P
set_option linter.unusedVariables false
set_option linter.unusedSimpArgs false
set_option maxRecDepth 100000

theorem wakes_100 : stockadelaw03_wakes.f 100 = some true := by kernel_rfl
theorem wakes_ev : Ev (fun k => stockadelaw03_wakes.f k) true := Ev.of (fun k => stockadelaw03_wakes.mono k) wakes_100
theorem wakes_some : Ev (fun k => (stockadelaw03_wakes.f k).bind fun t => some t) true := Ev.bind_ wakes_ev Ev.pure
end Go.Proofs.YtondogoepcndiaaDoor.Pure

/- Chapter 03, plain: are two codes the same? No conditions but the ones each theorem names. -/
namespace Go.Proofs.YtondogoepcndiaaDoor.Pure
open Go.RowKit Go.Proofs.YtondogoepcndiaaDoorW.PrintWords Go.Proofs.YtondogoepcndiaaDoorW.PrintLast Go.Proofs.YtondogoepcndiaaDoorW.PrintMore Go.Proofs.YtondogoepcndiaaDoor.P
set_option linter.unusedVariables false
set_option linter.unusedSimpArgs false

theorem tyd_of {x : S37} (h : Opening.ok37 x) : Tyd x := Opening.ok37_open h
theorem eqB (x y : S37) : ((!(x.f0 == y.f0) || (!(x.f1 == y.f1) || (!(x.f2 == y.f2) || (!(x.f3 == y.f3) || (!(x.f4 == y.f4)))))) = true) ↔ ¬ x = y := by
  obtain ⟨a, b, c, d, e⟩ := x
  obtain ⟨a', b', c', d', e'⟩ := y
  simp only [Bool.or_eq_true, Bool.not_eq_true', beq_eq_false_iff_ne, S37.mk.injEq, ne_eq]
  constructor
  · rintro h ⟨rfl, rfl, rfl, rfl, rfl⟩
    simp at h
  · intro h
    refine Decidable.byContradiction fun hn => h ?_
    simp only [not_or, Decidable.not_not] at hn
    exact ⟨hn.1, hn.2.1, hn.2.2.1, hn.2.2.2.1, hn.2.2.2.2⟩
instance : DecidableEq S37 := fun x y => if h : x.f0 = y.f0 ∧ x.f1 = y.f1 ∧ x.f2 = y.f2 ∧ x.f3 = y.f3 ∧ x.f4 = y.f4 then isTrue (by
    obtain ⟨a, b, c, d, e⟩ := x
    obtain ⟨a', b', c', d', e'⟩ := y
    obtain ⟨rfl, rfl, rfl, rfl, rfl⟩ := h
    rfl) else isFalse (fun e => h (by rw [e]; exact ⟨rfl, rfl, rfl, rfl, rfl⟩))
theorem same_l0 (a b : List S37) (hab : a.length = b.length) (ha : a.length ≤ 100000) : ∀ (n i : Nat), a.length - i ≤ n → i ≤ a.length →
    Ev (fun k => stockadelaw03_same.l0 k a b (i : Int)) (decide (a.drop i = b.drop i)) := by
  intro n
  induction n with
  | zero =>
    intro i hn hi
    rw [(show a.drop i = [] from List.drop_eq_nil_of_le (by omega)), (show b.drop i = [] from List.drop_eq_nil_of_le (by omega))]
    refine Ev.step_ (g := fun _ => some true) (fun K => ?_) Ev.pure
    rw [stockadelaw03_same.l0, if_neg (by omega)]
  | succ n ih =>
    intro i hn hi
    by_cases he : i = a.length
    · rw [(show a.drop i = [] from List.drop_eq_nil_of_le (by omega)), (show b.drop i = [] from List.drop_eq_nil_of_le (by omega))]
      refine Ev.step_ (g := fun _ => some true) (fun K => ?_) Ev.pure
      rw [stockadelaw03_same.l0, if_neg (by omega)]
    have h1 : i < a.length := by omega
    have h2 : i < b.length := by omega
    rw [dropC h1, dropC h2]
    by_cases e : a[i] = b[i]
    · have := ih (i + 1) (by omega) (by omega)
      have e2 : decide (a[i] :: a.drop (i + 1) = b[i] :: b.drop (i + 1)) = decide (a.drop (i + 1) = b.drop (i + 1)) := decide_eq_decide.2 ⟨fun h => (List.cons.inj h).2, fun h => by rw [e, h]⟩
      rw [e2]
      refine Ev.step_ (fun K => ?_) this
      rw [stockadelaw03_same.l0, if_pos (by omega), if_pos (by omega), if_pos (by omega), rd37 h1, rd37 h2, if_neg (fun h => (eqB _ _).1 h e), wnext (by omega)]
    · have e2 : decide (a[i] :: a.drop (i + 1) = b[i] :: b.drop (i + 1)) = false := decide_eq_false fun h => e (List.cons.inj h).1
      rw [e2]
      refine Ev.step_ (g := fun _ => some false) (fun K => ?_) Ev.pure
      rw [stockadelaw03_same.l0, if_pos (by omega), if_pos (by omega), if_pos (by omega), rd37 h1, rd37 h2, if_pos ((eqB _ _).2 e)]
theorem same_ev (a b : List S37) (ha : a.length ≤ 100000) : Ev (fun k => stockadelaw03_same.f k a b) (decide (a = b)) := by
  unfold stockadelaw03_same.f
  by_cases h : a.length = b.length
  · have := same_l0 a b h ha a.length 0 (by omega) (by omega)
    simp only [List.drop_zero] at this
    exact Ev.eqn (fun K => if_pos (by omega)) this
  · rw [show decide (a = b) = false from decide_eq_false (fun e => h (by rw [e]))]
    exact Ev.eqn (fun K => if_neg (by omega)) Ev.pure
end Go.Proofs.YtondogoepcndiaaDoor.Pure

/- The law AsmPrints holds for every code: its text, or why it has none, is the document's; the code stays as it is. -/
namespace Go.Proofs.YtondogoepcndiaaDoor.Pure
open Go.RowKit Go.Proofs.YtondogoepcndiaaDoorW.PrintWords Go.Proofs.YtondogoepcndiaaDoorW.PrintLast Go.Proofs.YtondogoepcndiaaDoorW.PrintMore
set_option linter.unusedVariables false

theorem AsmPrints (l0 : List P.S37) (y0 : l0.length * 12 ≤ 140737488351232) (hw0 : ∀ z ∈ l0, Opening.ok37 z) : ∃ k, P.stockadelaw03_AsmPrints.f k l0 = some true := by
  have ht : ∀ z ∈ l0, Tyd z := fun z hz => tyd_of (hw0 z hz)
  refine Ev.rounds (g := fun k => P.stockadelaw03_AsmPrints.f k l0) ?_
  unfold P.stockadelaw03_AsmPrints.f
  by_cases c : (l0.length : Int) > 1000
  · exact Ev.eqn (fun K => if_pos c) wakes_some
  · apply Ev.eqn
    · intro K
      rw [if_neg c, if_pos (by simp only [List.length_nil]; omega), Option.bind_some, List.nil_append]
    refine Ev.bind_ (print_ev l0 ht) (Ev.bind_ (rprint_ev l0 ht) ?_)
    refine Ev.eqn (fun K => if_pos rfl) (Ev.eqn (fun K => if_pos rfl) (Ev.bind_ (same_ev l0 l0 (by omega)) ?_))
    exact Ev.eqn (fun K => if_pos (by simp)) wakes_some
end Go.Proofs.YtondogoepcndiaaDoor.Pure
