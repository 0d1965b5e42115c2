/- Chapter 18, plain: the document's May and Check. No conditions but the ones each theorem names. -/
import Derived.Test.YtighficpbplkhaaDoorQb
import Derived.Test.YtighficpbplkhaaDoorPx24
namespace Go.Proofs.YtighficpbplkhaaDoor.Pure
open Go.RowKit Go.Proofs.YtighficpbplkhaaDoorW.PrintWords Go.Proofs.YtighficpbplkhaaDoorW.PrintLast Go.Proofs.YtighficpbplkhaaDoorW.PrintMore Go.Proofs.YtighficpbplkhaaDoor.P
set_option linter.unusedVariables false
set_option linter.unusedSimpArgs false

theorem refFull_eq {s : Int} (h0 : 0 ≤ s) (h1 : s ≤ 8) (k : Nat) : stockaderef18_Full.f (k + 9) s = some (fullV s) := by
  have : s = 0 ∨ s = 1 ∨ s = 2 ∨ s = 3 ∨ s = 4 ∨ s = 5 ∨ s = 6 ∨ s = 7 ∨ s = 8 := by omega
  refine at_rounds (g := fun k => stockaderef18_Full.f k s) (stockaderef18_Full.mono s) (Nat.le_add_left 9 k) ?_
  rcases this with rfl | rfl | rfl | rfl | rfl | rfl | rfl | rfl | rfl <;> decide +kernel

theorem refMay_j2 (k : Nat) (b : Bool) (x0 : Bool) (x1 x2 x3 x4 x5 x6 : Int) (h : b = false → 1 ≤ x3 ∧ x3 ≤ 8) : stockaderef18_May.j2 (k + 10) b x0 x1 x2 x3 x4 x5 x6 = some (!b && decide (0 ≤ x2 ∧ x2 ≤ 255 ∧ 1 ≤ x4 ∧ x4 ≤ fullV x3 ∧ x6 ≤ fullV x3)) := by
  rw [stockaderef18_May.j2]
  cases b with
  | true => simp
  | false =>
    obtain ⟨h0, h1⟩ := h rfl
    rw [refFull_eq (by omega) h1]
    simp only [Bool.false_eq_true, if_false, Option.bind_some, Bool.not_false, Bool.true_and]
    by_cases c1 : x2 ≥ 0
    · by_cases c2 : x2 ≤ 255
      · by_cases c3 : x4 > 0
        · by_cases c4 : x4 ≤ fullV x3
          · have c1' : 0 ≤ x2 := c1
            have c3' : 1 ≤ x4 := by omega
            simp [c1, c2, c3, c4, c1', c3']
          · simp [c1, c2, c3, c4]
        · simp only [if_pos c1, if_pos c2, if_neg c3]; congr 1; symm; simp only [decide_eq_false_iff_not]; omega
      · simp [c1, c2]
    · simp only [if_neg c1]; congr 1; symm; simp only [decide_eq_false_iff_not]; omega
theorem refMay_eq (k : Nat) (t : S50) : stockaderef18_May.f (k + 12) t.f0 t.f1 t.f2 t.f3 t.f4 t.f5 t.f6 = some (mayB t) := by
  obtain ⟨x0, x1, x2, x3, x4, x5, x6⟩ := t
  unfold stockaderef18_May.f mayB
  dsimp only
  by_cases c0 : x5 > x6
  · rw [if_pos c0]; congr 1; symm; simp only [decide_eq_false_iff_not]; omega
  · rw [if_neg c0]
    have c0' : x5 ≤ x6 := by omega
    by_cases c1 : x1 = 1
    · subst c1
      simp only [if_true, stockaderef18_May.j0, c0', true_and, true_or, Int.reduceEq, false_or, false_and, or_false]
      by_cases a : x2 = 0 <;> by_cases b : x3 = 0 <;> by_cases c : x4 = 0 <;> simp [a, b, c]
    · by_cases c2 : x1 = 2
      · subst c2
        simp only [if_true, stockaderef18_May.j0, c0', true_and, Int.reduceEq, if_false, BEq.rfl, or_true, false_or, false_and, or_false]
        by_cases a : x2 = 0 <;> by_cases b : x3 = 0 <;> by_cases c : x4 = 0 <;> simp [a, b, c]
      · have c2b : (x1 == 2) = false := by simp [c2]
        rw [if_neg c1, c2b]
        simp only [stockaderef18_May.j0, Bool.false_eq_true, if_false, c0', c1, c2, or_self, false_and, false_or, true_and]
        have key : ∀ b : Bool, stockaderef18_May.j1 (k + 11) b x0 x1 x2 x3 x4 x5 x6 = some (!b && decide ((x3 = 1 ∨ x3 = 2 ∨ x3 = 4 ∨ x3 = 8) ∧ 0 ≤ x2 ∧ x2 ≤ 255 ∧ 1 ≤ x4 ∧ x4 ≤ fullV x3 ∧ x6 ≤ fullV x3)) := by
          intro b
          rw [stockaderef18_May.j1]
          cases b with
          | true => simp
          | false =>
            simp only [Bool.false_eq_true, if_false, Bool.not_false, Bool.true_and]
            by_cases a1 : x3 = 1
            · rw [if_pos a1, refMay_j2 k _ _ _ _ _ _ _ _ (fun _ => by omega)]; simp [a1]
            · rw [if_neg a1]
              by_cases a2 : x3 = 2
              · rw [if_pos a2, refMay_j2 k _ _ _ _ _ _ _ _ (fun _ => by omega)]; simp [a2]
              · rw [if_neg a2]
                by_cases a3 : x3 = 4
                · rw [if_pos a3, refMay_j2 k _ _ _ _ _ _ _ _ (fun _ => by omega)]; simp [a3]
                · rw [if_neg a3]
                  by_cases a4 : x3 = 8
                  · rw [refMay_j2 k _ _ _ _ _ _ _ _ (fun _ => by omega)]; simp [a4]
                  · rw [refMay_j2 k (x3 != 8) _ _ _ _ _ _ _ (fun h => absurd (by simpa using h) a4)]; simp [a1, a2, a3, a4]
        by_cases c3 : x1 = 3
        · rw [if_pos c3, key]; simp [c3]
        · rw [if_neg c3, key]
          by_cases c4 : x1 = 4
          · simp [c4]
          · have : (x1 != 4) = true := by simp [c4]
            simp [this, c3, c4]
theorem refMay_ev (t : S50) : Ev (fun k => stockaderef18_May.f k t.f0 t.f1 t.f2 t.f3 t.f4 t.f5 t.f6) (mayB t) := Ev.eq_ 12 (fun k => refMay_eq k t)
theorem refCheck_l1 (l : List S46) (hl : l.length ≤ 32) (i : Nat) (hi : i < l.length) (hts : l[i].f0.length ≤ 8) (r : Int × Int) (hr : Ev (fun k => stockaderef18_Check.l0 k l (wrap64 ((i : Int) + 1))) r) :
    ∀ (n j : Nat), j + n = l[i].f0.length → Ev (fun k => stockaderef18_Check.l1 k l i j) (if ((l[i].f0.drop j).map tt).all mayB = true then r else ((i : Int), 1)) := by
  intro n
  induction n with
  | zero =>
    intro j hj
    refine Ev.step_ (g := fun k => stockaderef18_Check.l0 k l (wrap64 ((i : Int) + 1))) (fun K => ?_) ?_
    · rw [stockaderef18_Check.l1, if_pos (by omega), if_pos (by omega), rd46 hi, if_neg (by omega)]
    · rw [List.drop_eq_nil_of_le (by omega)]; simpa using hr
  | succ n ih =>
    intro j hj
    have hjl : j < l[i].f0.length := by omega
    have h := ih (j + 1) (by omega)
    refine Ev.step_ (g := fun k => (stockaderef18_May.f k l[i].f0[j].f0 l[i].f0[j].f1 l[i].f0[j].f2 l[i].f0[j].f3 l[i].f0[j].f4 l[i].f0[j].f5 l[i].f0[j].f6).bind fun t => if t = true then stockaderef18_Check.l1 k l i ((j + 1 : Nat) : Int) else some ((i : Int), 1)) (fun K => ?_) (Ev.bind_ (refMay_ev (tt l[i].f0[j])) ?_)
    · rw [stockaderef18_Check.l1, if_pos (by omega), if_pos (by omega), rd46 hi, if_pos (by omega), if_pos (by omega), rd55 hjl, ws (by omega)]
    · rw [drop_get hjl, List.map_cons, List.all_cons]
      cases hm : mayB (tt l[i].f0[j]) with
      | true => simpa using h
      | false => simpa using Ev.pure
theorem refCheck_l0 (l : List S46) (hl : l.length ≤ 32) : ∀ (n i : Nat), i + n = l.length → Ev (fun k => stockaderef18_Check.l0 k l i) (chkV ((l.drop i).map tr) i) := by
  intro n
  induction n with
  | zero =>
    intro i hi
    refine Ev.step_ (g := fun _ => some (0, 0)) (fun K => ?_) ?_
    · rw [stockaderef18_Check.l0, if_neg (by omega)]
    · rw [List.drop_eq_nil_of_le (by omega)]; exact Ev.pure
  | succ n ih =>
    intro i hi
    have hil : i < l.length := by omega
    have h := ih (i + 1) (by omega)
    rw [drop_get hil, List.map_cons, chkV]
    have e : (tr l[i]).f0.length = l[i].f0.length := by simp [tr]
    rw [e]
    by_cases h8 : l[i].f0.length > 8
    · rw [if_pos h8]
      refine Ev.step_ (g := fun _ => some ((i : Int), 3)) (fun K => ?_) Ev.pure
      rw [stockaderef18_Check.l0, if_pos (by omega), if_pos (by omega), rd46 hil, if_pos (by omega)]
    · rw [if_neg h8]
      refine Ev.step_ (g := fun k => stockaderef18_Check.l1 k l i 0) (fun K => ?_) ?_
      · rw [stockaderef18_Check.l0, if_pos (by omega), if_pos (by omega), rd46 hil, if_neg (by omega)]
      · have h' : Ev (fun k => stockaderef18_Check.l0 k l (wrap64 ((i : Int) + 1))) (chkV ((l.drop (i + 1)).map tr) ((i : Int) + 1)) := by
          rw [ws (by omega)]; simpa using h
        have := refCheck_l1 l hl i hil (by omega) _ h' l[i].f0.length 0 (by omega)
        simpa [tr] using this
theorem refCheck_ev (l : List S46) : Ev (fun k => stockaderef18_Check.f k l) (checkV (l.map tr)) := by
  unfold checkV
  rw [List.length_map]
  by_cases h : l.length > 32
  · rw [if_pos h]
    refine Ev.eqn (g := fun _ => some (0, 3)) (fun K => ?_) Ev.pure
    unfold stockaderef18_Check.f; rw [if_pos (by omega)]
  · rw [if_neg h]
    refine Ev.eqn (g := fun k => stockaderef18_Check.l0 k l 0) (fun K => ?_) (by simpa using refCheck_l0 l (by omega) l.length 0 (by omega))
    unfold stockaderef18_Check.f; rw [if_neg (by omega)]
end Go.Proofs.YtighficpbplkhaaDoor.Pure
