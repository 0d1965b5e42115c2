/- Chapter 18, plain: which tests may be; a table's check. No conditions but the ones each theorem names. -/
import Derived.Test.YtighficpbplkhaaDoorPx4
namespace Go.Proofs.YtighficpbplkhaaDoor.Pure
open Go.RowKit Go.Proofs.YtighficpbplkhaaDoorW.PrintWords Go.Proofs.YtighficpbplkhaaDoorW.PrintLast Go.Proofs.YtighficpbplkhaaDoorW.PrintMore Go.Proofs.YtighficpbplkhaaDoor.P
set_option linter.unusedVariables false
set_option linter.unusedSimpArgs false

/-! with rounds enough -/
theorem Ev.pure {α : Type} {r : α} : Ev (fun _ => some r) r := ⟨0, fun _ _ => rfl⟩
theorem Ev.eq_ {α : Type} {f : Nat → Option α} {r : α} (K0 : Nat) (h : ∀ K, f (K + K0) = some r) : Ev f r := ⟨K0, fun K hK => by have := h (K - K0); rwa [Nat.sub_add_cancel hK] at this⟩
theorem Ev.at_ {α : Type} {f : Nat → Option α} {r s : α} (h : Ev f r) {k : Nat} (m : ∀ k, LeO (f k) (f (k + 1))) (e : f k = some s) : s = r := by
  obtain ⟨K, hK⟩ := h
  have h1 := at_rounds m (Nat.le_max_left k K) e
  rw [hK _ (Nat.le_max_right k K)] at h1
  exact (Option.some.inj h1).symm
theorem Ev.bind_ {α β : Type} {f : Nat → Option α} {g : Nat → α → Option β} {a : α} {b : β} (hf : Ev f a) (hg : Ev (fun K => g K a) b) : Ev (fun K => (f K).bind (g K)) b := by
  obtain ⟨K0, h0⟩ := hf
  obtain ⟨K1, h1⟩ := hg
  exact ⟨max K0 K1, fun K h => by
    have e := h0 K (by omega)
    show (f K).bind (g K) = some b
    rw [e]; exact h1 K (by omega)⟩
theorem Ev.step_ {α : Type} {f g : Nat → Option α} {r : α} (h : ∀ K, f (K + 1) = g K) (hg : Ev g r) : Ev f r := by
  obtain ⟨K0, hK⟩ := hg
  refine ⟨K0 + 1, fun K h1 => ?_⟩
  obtain ⟨K', rfl⟩ : ∃ K', K = K' + 1 := ⟨K - 1, by omega⟩
  rw [h]; exact hK K' (by omega)
theorem Ev.eqn {α : Type} {f g : Nat → Option α} {r : α} (h : ∀ K, f K = g K) (hg : Ev g r) : Ev f r := by
  have : f = g := funext h
  rw [this]; exact hg
theorem w64 {n : Int} (h0 : -9223372036854775808 ≤ n) (h1 : n ≤ 9223372036854775807) : wrap64 n = n := by unfold wrap64; omega

/-! numbers of bytes -/
def fullV (s : Int) : Int := if s = 1 then 255 else if s = 2 then 65535 else if s = 4 then 4294967295 else if s = 8 then 18446744073709551615 else 256 ^ s.toNat - 1
theorem full_eq {s : Int} (h0 : 1 ≤ s) (h1 : s ≤ 8) : rule_full.f s = some (fullV s) := by
  have : s = 1 ∨ s = 2 ∨ s = 3 ∨ s = 4 ∨ s = 5 ∨ s = 6 ∨ s = 7 ∨ s = 8 := by omega
  rcases this with rfl | rfl | rfl | rfl | rfl | rfl | rfl | rfl <;> decide +kernel
/-! which tests may be -/
def tt (x : S55) : S50 := ⟨x.f0, x.f1, x.f2, x.f3, x.f4, x.f5, x.f6⟩
def tr (x : S46) : S53 := ⟨x.f0.map tt, x.f1⟩
/-- What the types say of a test, of a rule (and what is read of them, that they are no larger than memory). -/
def okT (t : S55) : Prop := (-9223372036854775808 ≤ t.f1 ∧ t.f1 ≤ 9223372036854775807) ∧ (-9223372036854775808 ≤ t.f2 ∧ t.f2 ≤ 9223372036854775807) ∧ (-9223372036854775808 ≤ t.f3 ∧ t.f3 ≤ 9223372036854775807) ∧ (0 ≤ t.f4 ∧ t.f4 ≤ 18446744073709551615) ∧ (0 ≤ t.f5 ∧ t.f5 ≤ 18446744073709551615) ∧ (0 ≤ t.f6 ∧ t.f6 ≤ 18446744073709551615)
def okR (z : S46) : Prop := z.f0.length ≤ 140737488351232 ∧ (∀ t ∈ z.f0, okT t) ∧ 0 ≤ z.f1 ∧ z.f1 ≤ 4294967295
def okL (l : List S46) : Prop := l.length ≤ 140737488351232 ∧ ∀ z ∈ l, okR z
def MayP (t : S50) : Prop := t.f5 ≤ t.f6 ∧ ((t.f1 = 1 ∨ t.f1 = 2) ∧ t.f2 = 0 ∧ t.f3 = 0 ∧ t.f4 = 0 ∧ t.f6 < 4294967296 ∨ (t.f1 = 3 ∨ t.f1 = 4) ∧ (t.f3 = 1 ∨ t.f3 = 2 ∨ t.f3 = 4 ∨ t.f3 = 8) ∧ 0 ≤ t.f2 ∧ t.f2 ≤ 255 ∧ 1 ≤ t.f4 ∧ t.f4 ≤ fullV t.f3 ∧ t.f6 ≤ fullV t.f3)
def mayB (t : S50) : Bool := decide (t.f5 ≤ t.f6 ∧ ((t.f1 = 1 ∨ t.f1 = 2) ∧ t.f2 = 0 ∧ t.f3 = 0 ∧ t.f4 = 0 ∧ t.f6 < 4294967296 ∨ (t.f1 = 3 ∨ t.f1 = 4) ∧ (t.f3 = 1 ∨ t.f3 = 2 ∨ t.f3 = 4 ∨ t.f3 = 8) ∧ 0 ≤ t.f2 ∧ t.f2 ≤ 255 ∧ 1 ≤ t.f4 ∧ t.f4 ≤ fullV t.f3 ∧ t.f6 ≤ fullV t.f3))
theorem mayP {t : S50} (h : mayB t = true) : MayP t := by unfold mayB at h; rw [decide_eq_true_eq] at h; exact h
theorem may_j2 (k : Nat) (b : Bool) (x0 : Bool) (x1 x2 x3 x4 x5 x6 : Int) (h : b = false → 1 ≤ x3 ∧ x3 ≤ 8) : rule_may.j2 (k + 1) b x0 x1 x2 x3 x4 x5 x6 = some (!b && decide (0 ≤ x2 ∧ x2 ≤ 255 ∧ 1 ≤ x4 ∧ x4 ≤ fullV x3 ∧ x6 ≤ fullV x3)) := by
  rw [rule_may.j2]
  cases b with
  | true => simp
  | false =>
    obtain ⟨h0, h1⟩ := h rfl
    rw [full_eq h0 h1]
    simp only [Bool.false_eq_true, if_false, Option.bind_some, Bool.not_false, Bool.true_and]
    by_cases c1 : x2 ≥ 0
    · by_cases c2 : x2 ≤ 255
      · by_cases c3 : x4 ≥ 1
        · by_cases c4 : x4 ≤ fullV x3
          · have c1' : 0 ≤ x2 := c1
            have c3' : 1 ≤ x4 := c3
            simp [c1, c2, c3, c4, c1', c3']
          · simp [c1, c2, c3, c4]
        · simp only [if_pos c1, if_pos c2, if_neg c3]; congr 1; symm; simp only [decide_eq_false_iff_not]; omega
      · simp [c1, c2]
    · simp only [if_neg c1]; congr 1; symm; simp only [decide_eq_false_iff_not]; omega
theorem may_eq (k : Nat) (t : S50) : rule_may.f (k + 3) t.f0 t.f1 t.f2 t.f3 t.f4 t.f5 t.f6 = some (mayB t) := by
  obtain ⟨x0, x1, x2, x3, x4, x5, x6⟩ := t
  unfold rule_may.f mayB
  dsimp only
  by_cases c0 : x5 > x6
  · rw [if_pos c0]; congr 1; symm; simp only [decide_eq_false_iff_not]; omega
  · rw [if_neg c0]
    have c0' : x5 ≤ x6 := by omega
    by_cases c1 : x1 = 1
    · subst c1
      simp only [if_true, rule_may.j0, c0', true_and, true_or, Int.reduceEq, false_or, false_and, or_false]
      by_cases a : x2 = 0 <;> by_cases b : x3 = 0 <;> by_cases c : x4 = 0 <;> simp [a, b, c]
    · by_cases c2 : x1 = 2
      · subst c2
        simp only [if_true, rule_may.j0, c0', true_and, Int.reduceEq, if_false, BEq.rfl, or_true, false_or, false_and, or_false]
        by_cases a : x2 = 0 <;> by_cases b : x3 = 0 <;> by_cases c : x4 = 0 <;> simp [a, b, c]
      · have c2b : (x1 == 2) = false := by simp [c2]
        rw [if_neg c1, c2b]
        simp only [rule_may.j0, Bool.false_eq_true, if_false, c0', c1, c2, or_self, false_and, false_or, true_and]
        have key : ∀ b : Bool, rule_may.j1 (k + 2) b x0 x1 x2 x3 x4 x5 x6 = some (!b && decide ((x3 = 1 ∨ x3 = 2 ∨ x3 = 4 ∨ x3 = 8) ∧ 0 ≤ x2 ∧ x2 ≤ 255 ∧ 1 ≤ x4 ∧ x4 ≤ fullV x3 ∧ x6 ≤ fullV x3)) := by
          intro b
          rw [rule_may.j1]
          cases b with
          | true => simp
          | false =>
            simp only [Bool.false_eq_true, if_false, Bool.not_false, Bool.true_and]
            by_cases a1 : x3 = 1
            · rw [if_pos a1, may_j2 k _ _ _ _ _ _ _ _ (fun _ => by omega)]; simp [a1]
            · rw [if_neg a1]
              by_cases a2 : x3 = 2
              · rw [if_pos a2, may_j2 k _ _ _ _ _ _ _ _ (fun _ => by omega)]; simp [a2]
              · rw [if_neg a2]
                by_cases a3 : x3 = 4
                · rw [if_pos a3, may_j2 k _ _ _ _ _ _ _ _ (fun _ => by omega)]; simp [a3]
                · rw [if_neg a3]
                  by_cases a4 : x3 = 8
                  · rw [may_j2 k _ _ _ _ _ _ _ _ (fun _ => by omega)]; simp [a4]
                  · rw [may_j2 k (x3 != 8) _ _ _ _ _ _ _ (fun h => absurd (by simpa using h) a4)]; simp [a1, a2, a3, a4]
        by_cases c3 : x1 = 3
        · rw [if_pos c3, key]; simp [c3]
        · rw [if_neg c3, key]
          by_cases c4 : x1 = 4
          · simp [c4]
          · have : (x1 != 4) = true := by simp [c4]
            simp [this, c3, c4]
theorem may_ev (t : S50) : Ev (fun k => rule_may.f k t.f0 t.f1 t.f2 t.f3 t.f4 t.f5 t.f6) (mayB t) := Ev.eq_ 3 (fun k => may_eq k t)
end Go.Proofs.YtighficpbplkhaaDoor.Pure
