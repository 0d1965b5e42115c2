/- Chapter 05 (as in 02): what the document's Rows and Find come to, in plain terms. -/
import Derived.Test.YtkjcjlegokdpdaaDoorPx13
import Derived.Test.YtkjcjlegokdpdaaDoorIa
namespace Go.Proofs.YtkjcjlegokdpdaaDoor.Pure
open Go.RowKit Go.Proofs.YtkjcjlegokdpdaaDoorW.PrintWords Go.Proofs.YtkjcjlegokdpdaaDoorW.PrintLast Go.Proofs.YtkjcjlegokdpdaaDoorW.PrintMore Go.Proofs.YtkjcjlegokdpdaaDoor.P
set_option linter.unusedVariables false
set_option linter.unusedSimpArgs false

theorem LeO.up {α : Type} {f : Nat → Option α} (h : ∀ k, LeO (f k) (f (k + 1))) {k : Nat} {r : α} (e : f k = some r) : ∀ j, f (k + j) = some r
  | 0 => e
  | j + 1 => h (k + j) r (LeO.up h e j)
def rowsL : List S82 := (stockaderef02_Rows.f 60).getD []
theorem rows_60 : stockaderef02_Rows.f 60 = some rowsL := by
  have h : (stockaderef02_Rows.f 60).isSome = true := by decide +kernel
  unfold rowsL
  obtain ⟨r, hr⟩ := Option.isSome_iff_exists.1 h
  rw [hr]; rfl
theorem rows_eq (k : Nat) : stockaderef02_Rows.f (k + 60) = some rowsL := by
  rw [Nat.add_comm]; exact LeO.up stockaderef02_Rows.mono rows_60 k
abbrev FT := Int × Int × Int × Int × Bool × Bool × Int × Int × Int × Int × Int
def tup (r : S82) : FT := (r.f0, r.f1.f0, r.f1.f1, r.f1.f2, r.f1.f3, r.f1.f4, r.f2, r.f3, r.f4, r.f5, r.f6)
/-- Does a row stand for an instruction with this Src and this Imm (the Op being its own)? -/
def hit (src imm : Int) (t : FT) : Bool := !(decide (t.2.2.2.2.2.2.2.1 = 4) && decide (src ≠ t.2.2.2.2.2.2.2.2.2.2)) && !(decide (t.2.2.2.2.2.2.2.2.2.1 = 4) && decide (imm ≠ t.2.2.2.2.2.2.2.2.2.2))
def yes (t : Option FT) : Int × Int × Int × Int × Bool × Bool × Int × Int × Int × Int × Int × Bool :=
  match t with
  | some (a, b, c, d, e, f, g, h, i, j, l) => (a, b, c, d, e, f, g, h, i, j, l, true)
  | none => (0, 0, 0, 0, false, false, 0, 0, 0, 0, 0, false)
theorem find_eq {op dst src off imm : Int} (s0 : 0 ≤ src) (s1 : src ≤ 255) (i0 : -2147483648 ≤ imm) (i1 : imm ≤ 2147483647) (l : List S82) (hl : l.length < 1000000) :
    ∀ (n : Nat) (i : Nat) (k : Nat), l.length - i = n → i ≤ l.length → n < k → stockaderef02_Find.l0 k l i op dst src off imm = some (yes (((l.drop i).map tup).find? fun t => decide (t.1 = op) && hit src imm t))
  | n, i, 0, _, _, hk => by omega
  | n, i, k + 1, hn, hi, hk => by
    have es : wrap64 src = src := fitW (by omega) (by omega)
    have ei : wrap64 imm = imm := fitW (by omega) (by omega)
    unfold stockaderef02_Find.l0
    by_cases c : i < l.length
    · have ew : wrap64 ((i : Int) + 1) = ((i + 1 : Nat) : Int) := by rw [fitW (by omega) (by omega)]; omega
      have ih := find_eq (op := op) (dst := dst) (off := off) s0 s1 i0 i1 l hl (n - 1) (i + 1) k (by omega) (by omega) (by omega)
      have hr : rd_T82 l (i : Int) = l[i] := by simp [rd_T82, List.getD_eq_getElem?_getD, List.getElem?_eq_getElem c]
      rw [if_pos (by omega : (i : Int) < (l.length : Int)), if_pos (by omega : (0 : Int) ≤ (i : Int)), ew, ih, hr, es, ei, List.drop_eq_getElem_cons c]
      generalize l[i] = r
      simp only [List.map_cons, List.find?_cons]
      by_cases h0 : r.f0 = op <;> by_cases h3 : r.f3 = 4 <;> by_cases h5 : r.f5 = 4 <;> by_cases h6 : src = r.f6 <;> by_cases h7 : imm = r.f6 <;> simp [h0, h3, h5, h6, h7, tup, hit, yes]
    · rw [if_neg (by omega), List.drop_eq_nil_of_le (by omega)]
      rfl
def rowsT : List FT := rowsL.map tup
def rowsOf (op : Int) : List FT :=
  if op % 8 = 4 ∨ op % 8 = 7 then
    if op = 215 then [(215, 2, 0, 2, false, false, 2, 0, 0, 4, 16), (215, 2, 0, 4, false, false, 2, 0, 0, 4, 32), (215, 2, 0, 8, false, false, 2, 0, 0, 4, 64)]
    else if op / 16 ≤ 12 ∧ ¬ (op / 16 = 8 ∧ op / 8 % 2 = 1) then
      [(op, 1, op / 16, 0, decide (op % 8 = 7), decide (op / 8 % 2 = 1), 2, (if op / 8 % 2 = 1 then 1 else 0), 0, (if op / 8 % 2 = 1 ∨ op / 16 = 8 then 0 else 3), 0)]
    else []
  else if op % 8 = 5 ∨ op % 8 = 6 then
    if condB (op / 16) = true then [(op, 6, op / 16, 0, decide (op % 8 = 5), decide (op / 8 % 2 = 1), 1, (if op / 8 % 2 = 1 then 1 else 0), 3, (if op / 8 % 2 = 1 then 0 else 3), 0)]
    else if op = 5 then [(5, 7, 0, 0, false, false, 0, 0, 3, 0, 0)] else if op = 133 then [(133, 8, 0, 0, false, false, 0, 0, 0, 3, 0)] else if op = 149 then [(149, 9, 0, 0, false, false, 0, 0, 0, 0, 0)] else []
  else if op % 8 = 0 then (if op = 24 then [(24, 10, 0, 0, false, false, 2, 4, 0, 3, 0), (24, 11, 0, 0, false, false, 2, 4, 0, 3, 1)] else [])
  else if op / 32 = 3 then
    (if op % 4 = 1 then [(op, 3, 0, sizeV (op / 8 % 4), false, false, 2, 1, 3, 0, 0)]
     else if op % 4 = 2 then [(op, 5, 0, sizeV (op / 8 % 4), false, false, 1, 0, 3, 3, 0)]
     else [(op, 4, 0, sizeV (op / 8 % 4), false, false, 1, 1, 3, 0, 0)])
  else []
instance ftEq : DecidableEq FT := by unfold FT; exact @instDecidableEqProd _ _ _ (@instDecidableEqProd _ _ _ (@instDecidableEqProd _ _ _ (@instDecidableEqProd _ _ _ (@instDecidableEqProd _ _ _ inferInstance))))
theorem rows_of_nat : ∀ n : Fin 256, rowsT.filter (fun t => decide (t.1 = (n.val : Int))) = rowsOf (n.val : Int) := by decide +kernel
theorem rows_of {op : Int} (h0 : 0 ≤ op) (h1 : op ≤ 255) : rowsT.filter (fun t => decide (t.1 = op)) = rowsOf op := by
  obtain ⟨n, rfl⟩ := Int.eq_ofNat_of_zero_le h0
  exact rows_of_nat ⟨n, by omega⟩
theorem find_filter {α : Type} (p q : α → Bool) : ∀ l : List α, l.find? (fun t => p t && q t) = (l.filter p).find? q
  | [] => rfl
  | x :: l => by

    rw [List.find?_cons, List.filter_cons]
    cases hp : p x
    · simp
    · cases hq : q x
      · simp [hq]
      · simp [hq]
theorem Find_eq {op dst src off imm : Int} (k : Nat) (h0 : 0 ≤ op) (h1 : op ≤ 255) (s0 : 0 ≤ src) (s1 : src ≤ 255) (i0 : -2147483648 ≤ imm) (i1 : imm ≤ 2147483647) :
    stockaderef02_Find.f (k + 200) op dst src off imm = some (yes ((rowsOf op).find? (hit src imm))) := by
  have hl : rowsL.length = 114 := by decide +kernel
  unfold stockaderef02_Find.f
  rw [show k + 200 = (k + 140) + 60 by omega, rows_eq, Option.bind_some]
  have := find_eq (op := op) (dst := dst) (off := off) s0 s1 i0 i1 rowsL (by omega) 114 0 (k + 140 + 60) (by omega) (by omega) (by omega)
  rw [show ((0 : Nat) : Int) = 0 from rfl] at this
  rw [this, List.drop_zero, find_filter (fun t : FT => decide (t.1 = op)) (hit src imm), ← rowsT, rows_of h0 h1]
end Go.Proofs.YtkjcjlegokdpdaaDoor.Pure
