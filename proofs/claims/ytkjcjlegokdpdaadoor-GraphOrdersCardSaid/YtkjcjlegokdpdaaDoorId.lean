/- Chapter 05 (as in 02): the document's Of answers as the program's. -/
import Derived.Test.YtkjcjlegokdpdaaDoorPx14
import Derived.Test.YtkjcjlegokdpdaaDoorIo
import Derived.Test.YtkjcjlegokdpdaaDoorIb
import Derived.Test.YtkjcjlegokdpdaaDoorPx15
namespace Go.Proofs.YtkjcjlegokdpdaaDoor.Pure
open Go.RowKit Go.Proofs.YtkjcjlegokdpdaaDoorW.PrintWords Go.Proofs.YtkjcjlegokdpdaaDoorW.PrintLast Go.Proofs.YtkjcjlegokdpdaaDoorW.PrintMore Go.Proofs.YtkjcjlegokdpdaaDoor.P
set_option linter.unusedVariables false
set_option linter.unusedSimpArgs false

def wrongB (u n : Int) : Bool := decide (u = 1 ∧ n > 10 ∨ u = 2 ∧ n > 9)
theorem wrong_eq (u n : Int) : stockaderef02_wrong.f u n = some (wrongB u n) := by
  unfold stockaderef02_wrong.f wrongB
  by_cases h1 : u = 1
  · subst h1; by_cases h : n > 10 <;> simp [h]
  · by_cases h2 : u = 2 <;> simp [h1, h2]
def refV (t : Option FT) (dst src off imm : Int) : Int × Int × Int × Bool × Bool × Int :=
  match t with
  | none => (0, 0, 0, false, false, 20)
  | some (_, a, b, c, d, e, D, S, O, I, _) =>
    if wrongB D dst = true ∨ wrongB S src = true then (0, 0, 0, false, false, 21)
    else if D = 0 ∧ dst ≠ 0 ∨ S = 0 ∧ src ≠ 0 ∨ O = 0 ∧ off ≠ 0 ∨ I = 0 ∧ imm ≠ 0 then (0, 0, 0, false, false, 22)
    else (a, b, c, d, e, 0)
theorem refOf_eq' {op dst src off imm : Int} (k : Nat) (h0 : 0 ≤ op) (h1 : op ≤ 255) (s0 : 0 ≤ src) (s1 : src ≤ 255) (i0 : -2147483648 ≤ imm) (i1 : imm ≤ 2147483647) :
    stockaderef02_Of.f (k + 200) op dst src off imm = some (refV ((rowsOf op).find? (hit src imm)) dst src off imm) := by
  unfold stockaderef02_Of.f
  rw [Find_eq k h0 h1 s0 s1 i0 i1]
  cases (rowsOf op).find? (hit src imm) with
  | none => simp [yes, refV]
  | some t =>
    obtain ⟨_, a, b, c, d, e, D, S, O, I, _⟩ := t
    rw [show k + 200 = (k + 199) + 1 from rfl]
    simp only [yes, Option.bind_some, wrong_eq, if_true, stockaderef02_Of.j0, refV]
    cases hD : wrongB D dst <;> cases hS : wrongB S src <;> simp only [if_true, if_false, Bool.false_eq_true, true_or, or_true, or_self]
    clear hD hS
    by_cases a1 : D = 0 <;> by_cases a2 : S = 0 <;> by_cases a3 : O = 0 <;> by_cases a4 : I = 0 <;> by_cases b1 : dst = 0 <;> by_cases b2 : src = 0 <;> by_cases b3 : off = 0 <;> by_cases b4 : imm = 0 <;> simp [a1, a2, a3, a4, b1, b2, b3, b4]
theorem w_1 (n : Int) : wrongB 1 n = decide (n > 10) := by simp [wrongB]
theorem w_2 (n : Int) : wrongB 2 n = decide (n > 9) := by simp [wrongB]
theorem w_0 (n : Int) : wrongB 0 n = false := by simp [wrongB]
theorem w_4 (n : Int) : wrongB 4 n = false := by simp [wrongB]
/-- One row is there, and it is hit. -/
theorem ref_one {op dst src off imm : Int} {a b c : Int} {d e : Bool} {o D S O I z : Int} {f1 f2 f3 f4 f5 : Bool} (h1 : (rowsOf op).find? (hit src imm) = some (o, a, b, c, d, e, D, S, O, I, z)) (hk : kindV op src imm = (a, b, c, d, e)) (ha : a ≠ 0)
    (hf : fieldsV (a, b, c, d, e) = (f1, f2, f3, f4, f5)) (hw : (f1 = true ∧ dst > 10 ∨ f2 = true ∧ dst = 10 ∨ f3 = true ∧ src > 10) ↔ (wrongB D dst = true ∨ wrongB S src = true))
    (hz : (f1 = false ∧ dst ≠ 0 ∨ f3 = false ∧ src ≠ 0 ∧ a ≠ 11 ∨ f4 = false ∧ off ≠ 0 ∨ f5 = false ∧ imm ≠ 0) ↔ (D = 0 ∧ dst ≠ 0 ∨ S = 0 ∧ src ≠ 0 ∨ O = 0 ∧ off ≠ 0 ∨ I = 0 ∧ imm ≠ 0)) :
    refV ((rowsOf op).find? (hit src imm)) dst src off imm = ofV op dst src off imm := by
  rw [h1]
  unfold ofV
  simp only [hk, hf, refV, if_neg ha]
  by_cases hW : wrongB D dst = true ∨ wrongB S src = true
  · rw [if_pos hW, if_pos (hw.2 hW)]
  · rw [if_neg hW, if_neg (fun h => hW (hw.1 h))]
    by_cases hZ : D = 0 ∧ dst ≠ 0 ∨ S = 0 ∧ src ≠ 0 ∨ O = 0 ∧ off ≠ 0 ∨ I = 0 ∧ imm ≠ 0
    · rw [if_pos hZ, if_pos (hz.2 hZ)]
    · rw [if_neg hZ, if_neg (fun h => hZ (hz.1 h))]
theorem ref_hd {op dst src off imm : Int} {a b c : Int} {d e : Bool} {o D S O I z : Int} {f1 f2 f3 f4 f5 : Bool} {l : List FT} (hr : rowsOf op = (o, a, b, c, d, e, D, S, O, I, z) :: l) (hh : hit src imm (o, a, b, c, d, e, D, S, O, I, z) = true) (hk : kindV op src imm = (a, b, c, d, e)) (ha : a ≠ 0)
    (hf : fieldsV (a, b, c, d, e) = (f1, f2, f3, f4, f5)) (hw : (f1 = true ∧ dst > 10 ∨ f2 = true ∧ dst = 10 ∨ f3 = true ∧ src > 10) ↔ (wrongB D dst = true ∨ wrongB S src = true))
    (hz : (f1 = false ∧ dst ≠ 0 ∨ f3 = false ∧ src ≠ 0 ∧ a ≠ 11 ∨ f4 = false ∧ off ≠ 0 ∨ f5 = false ∧ imm ≠ 0) ↔ (D = 0 ∧ dst ≠ 0 ∨ S = 0 ∧ src ≠ 0 ∨ O = 0 ∧ off ≠ 0 ∨ I = 0 ∧ imm ≠ 0)) :
    refV ((rowsOf op).find? (hit src imm)) dst src off imm = ofV op dst src off imm :=
  ref_one (by rw [hr, List.find?_cons, hh]) hk ha hf hw hz
theorem ref_2nd {op dst src off imm : Int} {a b c : Int} {d e : Bool} {o D S O I z : Int} {f1 f2 f3 f4 f5 : Bool} {x : FT} {l : List FT} (hr : rowsOf op = x :: (o, a, b, c, d, e, D, S, O, I, z) :: l) (h1 : hit src imm x = false) (hh : hit src imm (o, a, b, c, d, e, D, S, O, I, z) = true) (hk : kindV op src imm = (a, b, c, d, e)) (ha : a ≠ 0)
    (hf : fieldsV (a, b, c, d, e) = (f1, f2, f3, f4, f5)) (hw : (f1 = true ∧ dst > 10 ∨ f2 = true ∧ dst = 10 ∨ f3 = true ∧ src > 10) ↔ (wrongB D dst = true ∨ wrongB S src = true))
    (hz : (f1 = false ∧ dst ≠ 0 ∨ f3 = false ∧ src ≠ 0 ∧ a ≠ 11 ∨ f4 = false ∧ off ≠ 0 ∨ f5 = false ∧ imm ≠ 0) ↔ (D = 0 ∧ dst ≠ 0 ∨ S = 0 ∧ src ≠ 0 ∨ O = 0 ∧ off ≠ 0 ∨ I = 0 ∧ imm ≠ 0)) :
    refV ((rowsOf op).find? (hit src imm)) dst src off imm = ofV op dst src off imm :=
  ref_one (by rw [hr, List.find?_cons, h1, List.find?_cons, hh]) hk ha hf hw hz
theorem ref_3rd {op dst src off imm : Int} {a b c : Int} {d e : Bool} {o D S O I z : Int} {f1 f2 f3 f4 f5 : Bool} {x y : FT} {l : List FT} (hr : rowsOf op = x :: y :: (o, a, b, c, d, e, D, S, O, I, z) :: l) (h1 : hit src imm x = false) (h2 : hit src imm y = false) (hh : hit src imm (o, a, b, c, d, e, D, S, O, I, z) = true) (hk : kindV op src imm = (a, b, c, d, e)) (ha : a ≠ 0)
    (hf : fieldsV (a, b, c, d, e) = (f1, f2, f3, f4, f5)) (hw : (f1 = true ∧ dst > 10 ∨ f2 = true ∧ dst = 10 ∨ f3 = true ∧ src > 10) ↔ (wrongB D dst = true ∨ wrongB S src = true))
    (hz : (f1 = false ∧ dst ≠ 0 ∨ f3 = false ∧ src ≠ 0 ∧ a ≠ 11 ∨ f4 = false ∧ off ≠ 0 ∨ f5 = false ∧ imm ≠ 0) ↔ (D = 0 ∧ dst ≠ 0 ∨ S = 0 ∧ src ≠ 0 ∨ O = 0 ∧ off ≠ 0 ∨ I = 0 ∧ imm ≠ 0)) :
    refV ((rowsOf op).find? (hit src imm)) dst src off imm = ofV op dst src off imm :=
  ref_one (by rw [hr, List.find?_cons, h1, List.find?_cons, h2, List.find?_cons, hh]) hk ha hf hw hz
/-- None is there, or none is hit. -/
theorem ref_none {op dst src off imm : Int} (h1 : (rowsOf op).find? (hit src imm) = none) (hk : kindV op src imm = zeroV) :
    refV ((rowsOf op).find? (hit src imm)) dst src off imm = ofV op dst src off imm := by
  rw [h1]
  unfold ofV
  simp only [hk, zeroV, refV, if_true]
theorem ref_of {op dst src off imm : Int} (h0 : 0 ≤ op) (h1 : op ≤ 255) (s0 : 0 ≤ src) (s1 : src ≤ 255) (d0 : 0 ≤ dst) :
    refV ((rowsOf op).find? (hit src imm)) dst src off imm = ofV op dst src off imm := by
  by_cases c1 : op % 8 = 4 ∨ op % 8 = 7
  · by_cases c2 : op = 215
    · subst c2
      have hr : rowsOf 215 = [(215, 2, 0, 2, false, false, 2, 0, 0, 4, 16), (215, 2, 0, 4, false, false, 2, 0, 0, 4, 32), (215, 2, 0, 8, false, false, 2, 0, 0, 4, 64)] := by decide +kernel
      by_cases e1 : imm = 16
      · subst e1
        exact ref_hd hr (by simp [hit]) (show _ = ((2 : Int), (0 : Int), _, false, false) by simp [kindV]) (by decide) rfl (by simp [w_0, w_2]; omega) (by simp)
      by_cases e2 : imm = 32
      · subst e2
        exact ref_2nd hr (by simp [hit]) (by simp [hit]) (show _ = ((2 : Int), (0 : Int), _, false, false) by simp [kindV]) (by decide) rfl (by simp [w_0, w_2]; omega) (by simp)
      by_cases e3 : imm = 64
      · subst e3
        exact ref_3rd hr (by simp [hit]) (by simp [hit]) (by simp [hit]) (show _ = ((2 : Int), (0 : Int), _, false, false) by simp [kindV]) (by decide) rfl (by simp [w_0, w_2]; omega) (by simp)
      exact ref_none (by rw [hr]; simp [hit, e1, e2, e3]) (by simp [kindV, e1, e2, e3])
    · by_cases c3 : op / 16 ≤ 12 ∧ ¬ (op / 16 = 8 ∧ op / 8 % 2 = 1)
      · have hk : kindV op src imm = (1, op / 16, 0, decide (op % 8 = 7), decide (op / 8 % 2 = 1)) := by
          unfold kindV; rw [if_pos c1, if_neg (fun h => c2 h.1), if_pos c3]
        have hr : rowsOf op = [(op, 1, op / 16, 0, decide (op % 8 = 7), decide (op / 8 % 2 = 1), 2, (if op / 8 % 2 = 1 then 1 else 0), 0, (if op / 8 % 2 = 1 ∨ op / 16 = 8 then 0 else 3), 0)] := by
          unfold rowsOf; rw [if_pos c1, if_neg c2, if_pos c3]
        by_cases hg : op / 8 % 2 = 1
        · simp only [hg, if_true, true_or, decide_true] at hk hr
          exact ref_hd hr (by simp [hit]) hk (by decide) rfl (by simp [w_1, w_2]; omega) (by simp)
        · by_cases h8 : op / 16 = 8
          · simp only [hg, h8, if_true, if_false, or_true, decide_false] at hk hr
            exact ref_hd hr (by simp [hit]) hk (by decide) rfl (by simp [w_0, w_2]; omega) (by simp)
          · simp only [hg, h8, if_false, or_self, decide_false] at hk hr
            exact ref_hd (f1 := true) (f2 := true) (f3 := false) (f4 := false) (f5 := true) hr (by simp [hit]) hk (by decide) (by simp [fieldsV, h8]) (by simp [w_0, w_2]; omega) (by simp)
      · exact ref_none (by unfold rowsOf; rw [if_pos c1, if_neg c2, if_neg c3]; rfl) (by unfold kindV; rw [if_pos c1, if_neg (fun h => c2 h.1), if_neg c3])
  by_cases c2 : op % 8 = 5 ∨ op % 8 = 6
  · by_cases c3 : condB (op / 16) = true
    · have hk : kindV op src imm = (6, op / 16, 0, decide (op % 8 = 5), decide (op / 8 % 2 = 1)) := by
        unfold kindV jumpV; rw [if_neg c1, if_pos c2, if_pos c3]
      have hr : rowsOf op = [(op, 6, op / 16, 0, decide (op % 8 = 5), decide (op / 8 % 2 = 1), 1, (if op / 8 % 2 = 1 then 1 else 0), 3, (if op / 8 % 2 = 1 then 0 else 3), 0)] := by
        unfold rowsOf; rw [if_neg c1, if_pos c2, if_pos c3]
      by_cases hg : op / 8 % 2 = 1
      · simp only [hg, if_true, decide_true] at hk hr
        exact ref_hd hr (by simp [hit]) hk (by decide) rfl (by simp [w_1]) (by simp)
      · simp only [hg, if_false, decide_false] at hk hr
        exact ref_hd hr (by simp [hit]) hk (by decide) rfl (by simp [w_1, w_0]) (by simp)
    · have hkk : kindV op src imm = (if op = 5 then (7, 0, 0, false, false) else if op = 133 then (8, 0, 0, false, false) else if op = 149 then (9, 0, 0, false, false) else zeroV) := by
        unfold kindV jumpV; rw [if_neg c1, if_pos c2, if_neg c3]
      have hrr : rowsOf op = (if op = 5 then [(5, 7, 0, 0, false, false, 0, 0, 3, 0, 0)] else if op = 133 then [(133, 8, 0, 0, false, false, 0, 0, 0, 3, 0)] else if op = 149 then [(149, 9, 0, 0, false, false, 0, 0, 0, 0, 0)] else []) := by
        unfold rowsOf; rw [if_neg c1, if_pos c2, if_neg c3]
      by_cases e1 : op = 5
      · rw [if_pos e1] at hkk hrr
        exact ref_hd hrr (by simp [hit]) hkk (by decide) rfl (by simp [w_0]) (by simp)
      by_cases e2 : op = 133
      · rw [if_neg e1, if_pos e2] at hkk hrr
        exact ref_hd hrr (by simp [hit]) hkk (by decide) rfl (by simp [w_0]) (by simp)
      by_cases e3 : op = 149
      · rw [if_neg e1, if_neg e2, if_pos e3] at hkk hrr
        exact ref_hd hrr (by simp [hit]) hkk (by decide) rfl (by simp [w_0]) (by simp)
      rw [if_neg e1, if_neg e2, if_neg e3] at hkk hrr
      exact ref_none (by rw [hrr]; rfl) hkk
  by_cases c3 : op % 8 = 0
  · by_cases c4 : op = 24
    · have hrr : rowsOf op = [(24, 10, 0, 0, false, false, 2, 4, 0, 3, 0), (24, 11, 0, 0, false, false, 2, 4, 0, 3, 1)] := by
        unfold rowsOf; rw [if_neg c1, if_neg c2, if_pos c3, if_pos c4]
      by_cases e0 : src = 0
      · have hk : kindV op src imm = (10, 0, 0, false, false) := by unfold kindV; rw [if_neg c1, if_neg c2, if_pos c3, if_pos ⟨c4, by omega⟩, e0]; rfl
        exact ref_hd hrr (by simp [hit, e0]) hk (by decide) rfl (by simp [w_2, w_4]; omega) (by simp [e0])
      by_cases e1 : src = 1
      · have hk : kindV op src imm = (11, 0, 0, false, false) := by unfold kindV; rw [if_neg c1, if_neg c2, if_pos c3, if_pos ⟨c4, by omega⟩, e1]; rfl
        exact ref_2nd hrr (by simp [hit, e1]) (by simp [hit, e1]) hk (by decide) rfl (by simp [w_2, w_4]; omega) (by simp)
      exact ref_none (by rw [hrr]; simp [hit, e0, e1]) (by unfold kindV; rw [if_neg c1, if_neg c2, if_pos c3, if_neg (by omega)])
    · exact ref_none (by unfold rowsOf; rw [if_neg c1, if_neg c2, if_pos c3, if_neg c4]; rfl) (by unfold kindV; rw [if_neg c1, if_neg c2, if_pos c3, if_neg (fun h => c4 h.1)])
  by_cases c4 : op / 32 = 3
  · have hkk : kindV op src imm = (classV (op % 4), 0, sizeV (op / 8 % 4), false, false) := by
      unfold kindV; rw [if_neg c1, if_neg c2, if_neg c3, if_pos c4]
    have hrr : rowsOf op = (if op % 4 = 1 then [(op, 3, 0, sizeV (op / 8 % 4), false, false, 2, 1, 3, 0, 0)] else if op % 4 = 2 then [(op, 5, 0, sizeV (op / 8 % 4), false, false, 1, 0, 3, 3, 0)] else [(op, 4, 0, sizeV (op / 8 % 4), false, false, 1, 1, 3, 0, 0)]) := by
      unfold rowsOf; rw [if_neg c1, if_neg c2, if_neg c3, if_pos c4]
    unfold classV at hkk
    by_cases e1 : op % 4 = 1
    · rw [if_pos e1] at hkk hrr
      exact ref_hd hrr (by simp [hit]) hkk (by decide) rfl (by simp [w_1, w_2]; omega) (by simp)
    by_cases e2 : op % 4 = 2
    · rw [if_neg e1, if_pos e2] at hkk hrr
      exact ref_hd hrr (by simp [hit]) hkk (by decide) rfl (by simp [w_1, w_0]) (by simp)
    rw [if_neg e1, if_neg e2] at hkk hrr
    exact ref_hd hrr (by simp [hit]) hkk (by decide) rfl (by simp [w_1]) (by simp)
  · exact ref_none (by unfold rowsOf; rw [if_neg c1, if_neg c2, if_neg c3, if_neg c4]; rfl) (by unfold kindV; rw [if_neg c1, if_neg c2, if_neg c3, if_neg c4])
theorem refOf_eq {op dst src off imm : Int} (k : Nat) (h0 : 0 ≤ op) (h1 : op ≤ 255) (d0 : 0 ≤ dst) (s0 : 0 ≤ src) (s1 : src ≤ 255) (i0 : -2147483648 ≤ imm) (i1 : imm ≤ 2147483647) :
    stockaderef02_Of.f (k + 200) op dst src off imm = some (ofV op dst src off imm) := by
  rw [refOf_eq' k h0 h1 s0 s1 i0 i1, ref_of h0 h1 s0 s1 d0]
theorem refPlaces_eq {op dst src off imm : Int} (k : Nat) (h0 : 0 ≤ op) (h1 : op ≤ 255) (d0 : 0 ≤ dst) (s0 : 0 ≤ src) (s1 : src ≤ 255) (i0 : -2147483648 ≤ imm) (i1 : imm ≤ 2147483647) :
    stockaderef02_Places.f (k + 200) op dst src off imm = some (if (ofV op dst src off imm).2.2.2.2.2 = 0 then placesV (kindV op src imm) else 0) := by
  unfold stockaderef02_Places.f
  rw [refOf_eq k h0 h1 d0 s0 s1 i0 i1, Option.bind_some]
  by_cases he : (ofV op dst src off imm).2.2.2.2.2 = 0
  · rw [if_pos he, if_pos he, (of_ok he).1]
    unfold kOf placesV
    dsimp only
    by_cases c1 : (kindV op src imm).1 = 10 <;> by_cases c2 : (kindV op src imm).1 = 11 <;> simp [c1, c2]
  · rw [if_neg he, if_neg he]
end Go.Proofs.YtkjcjlegokdpdaaDoor.Pure
