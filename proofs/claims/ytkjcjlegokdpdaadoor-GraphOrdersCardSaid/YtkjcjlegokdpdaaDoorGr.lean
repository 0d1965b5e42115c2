/- Chapter 05: a graph on the numbers below n: the order that takes again and again the least one to which none leads that is left (plain lists; no program). -/
import Derived.Test.YtkjcjlegokdpdaaDoorPx0
namespace Go.Proofs.YtkjcjlegokdpdaaDoor.Pure
set_option linter.unusedVariables false
set_option linter.unusedSimpArgs false

/-- Is it in the set? -/
def at_ (l : List Bool) (i : Nat) : Bool := l.getD i false
theorem at_set {l : List Bool} {i j : Nat} {b : Bool} (h : i < l.length) : at_ (l.set i b) j = if j = i then b else at_ l j := by
  unfold at_
  rw [List.getD_eq_getElem?_getD, List.getD_eq_getElem?_getD]
  by_cases e : j = i
  · subst e; rw [if_pos rfl, List.getElem?_set_self h]; rfl
  · rw [if_neg e, List.getElem?_set_ne (Ne.symm e)]
theorem at_out {l : List Bool} {i : Nat} (h : l.length ≤ i) : at_ l i = false := by
  unfold at_; rw [List.getD_eq_getElem?_getD, List.getElem?_eq_none h]; rfl
theorem at_lt {l : List Bool} {i : Nat} (h : at_ l i = true) : i < l.length := by
  refine Decidable.byContradiction fun hn => ?_
  rw [at_out (by omega)] at h; exact absurd h (by decide)
theorem at_ext {l m : List Bool} (hl : l.length = m.length) (h : ∀ i, i < l.length → at_ l i = at_ m i) : l = m := by
  apply List.ext_getElem hl
  intro i h1 h2
  have := h i h1
  unfold at_ at this
  rw [List.getD_eq_getElem?_getD, List.getD_eq_getElem?_getD, List.getElem?_eq_getElem h1, List.getElem?_eq_getElem h2] at this
  exact this
def cnt (l : List Bool) : Nat := (l.filter id).length
theorem cnt_set {l : List Bool} {i : Nat} (h : at_ l i = true) : cnt (l.set i false) + 1 = cnt l := by
  unfold cnt at_ at *
  induction l generalizing i with
  | nil => simp at h
  | cons b l ih =>
    cases i with
    | zero => simp at h; subst h; simp
    | succ i =>
      have h' : l.getD i false = true := by simpa using h
      have := ih h'
      cases b <;> simp [List.filter_cons] <;> omega
theorem cnt_zero {l : List Bool} (h : cnt l = 0) (i : Nat) : at_ l i = false := by
  cases hb : at_ l i with
  | false => rfl
  | true => have := cnt_set hb; omega
theorem cnt_of_none {l : List Bool} (h : ∀ i, at_ l i = false) : cnt l = 0 := by
  unfold cnt
  rw [List.length_eq_zero_iff, List.filter_eq_nil_iff]
  intro b hb
  obtain ⟨i, hi, rfl⟩ := List.getElem_of_mem hb
  have := h i
  unfold at_ at this
  rw [List.getD_eq_getElem?_getD, List.getElem?_eq_getElem hi] at this
  simpa using this
theorem cnt_le (l : List Bool) : cnt l ≤ l.length := List.length_filter_le _ _
/-- Strictly rising. -/
def Up (l : List Nat) : Prop := l.Pairwise (· < ·)
theorem up_range (n : Nat) (p : Nat → Bool) : Up ((List.range n).filter p) := List.Pairwise.filter _ List.pairwise_lt_range
theorem up_ext {l m : List Nat} (hl : Up l) (hm : Up m) (h : ∀ x, x ∈ l ↔ x ∈ m) : l = m := by
  induction l generalizing m with
  | nil =>
    cases m with
    | nil => rfl
    | cons y m => exact absurd ((h y).2 List.mem_cons_self) (by simp)
  | cons x l ih =>
    cases m with
    | nil => exact absurd ((h x).1 List.mem_cons_self) (by simp)
    | cons y m =>
      obtain ⟨hx, hl'⟩ := List.pairwise_cons.1 hl
      obtain ⟨hy, hm'⟩ := List.pairwise_cons.1 hm
      have e : x = y := by
        have h1 := (h x).1 List.mem_cons_self
        have h2 := (h y).2 List.mem_cons_self
        rcases List.mem_cons.1 h1 with e | h1
        · exact e
        · rcases List.mem_cons.1 h2 with e | h2
          · exact e.symm
          · have := hy x h1; have := hx y h2; omega
      subst e
      refine congrArg _ (ih hl' hm' fun z => ⟨fun hz => ?_, fun hz => ?_⟩)
      · rcases List.mem_cons.1 ((h z).1 (List.mem_cons_of_mem _ hz)) with e | h3
        · subst e; exact absurd (hx _ hz) (Nat.lt_irrefl _)
        · exact h3
      · rcases List.mem_cons.1 ((h z).2 (List.mem_cons_of_mem _ hz)) with e | h3
        · subst e; exact absurd (hy _ hz) (Nat.lt_irrefl _)
        · exact h3
section
variable (N : Nat → List Nat) (n : Nat)
/-- How many of a set lead to it. -/
def inD (l : List Bool) (t : Nat) : Nat := ((List.range n).filter fun a => at_ l a && (N a).contains t).length
/-- Those of a set to which none of it leads, the least first. -/
def zer (l : List Bool) : List Nat := (List.range n).filter fun t => at_ l t && decide (inD N n l t = 0)
/-- The order: what it took, and what was left. -/
def ordS : Nat → List Bool → List Nat → List Nat × List Bool
  | 0, l, row => (row, l)
  | m + 1, l, row => match zer N n l with
    | [] => (row, l)
    | t :: _ => ordS m (l.set t false) (row ++ [t])
variable {N n}
theorem inD_zero {l : List Bool} (t : Nat) : inD N n l t = 0 ↔ ∀ a, a < n → at_ l a = true → t ∉ N a := by
  unfold inD
  rw [List.length_eq_zero_iff, List.filter_eq_nil_iff]
  constructor
  · intro h a ha hl hm
    exact h a (List.mem_range.2 ha) (by simp [hl, hm])
  · intro h a ha hx
    simp only [Bool.and_eq_true, List.contains_iff_mem] at hx
    exact h a (List.mem_range.1 ha) hx.1 hx.2
theorem mem_zer {l : List Bool} {t : Nat} : t ∈ zer N n l ↔ t < n ∧ at_ l t = true ∧ inD N n l t = 0 := by
  unfold zer
  rw [List.mem_filter, List.mem_range]
  simp
theorem zer_up (l : List Bool) : Up (zer N n l) := up_range _ _
theorem inD_set {l : List Bool} {a t : Nat} (hl : l.length = n) (ha : at_ l a = true) : inD N n (l.set a false) t + (if t ∈ N a then 1 else 0) = inD N n l t := by
  have han : a < n := by have := at_lt ha; omega
  unfold inD
  have key : ∀ (L : List Nat), L.Nodup → (L.filter fun b => at_ (l.set a false) b && (N b).contains t).length + (if a ∈ L ∧ t ∈ N a then 1 else 0) = (L.filter fun b => at_ l b && (N b).contains t).length := by
    intro L
    induction L with
    | nil => intro _; simp
    | cons b L ih =>
      intro hnd
      obtain ⟨hb, hnd⟩ := List.nodup_cons.1 hnd
      have ih := ih hnd
      have hs : at_ (l.set a false) b = if b = a then false else at_ l b := at_set (by omega)
      by_cases e : b = a
      · subst e
        rw [if_neg (fun h => hb h.1)] at ih
        rw [if_pos rfl] at hs
        simp only [List.filter_cons, hs, Bool.false_and, ha, Bool.true_and, List.contains_iff_mem, List.mem_cons, true_or, true_and, Bool.false_eq_true, if_false]
        by_cases c : t ∈ N b
        · simp only [c, if_true, List.length_cons]; omega
        · simp only [c, if_false]; omega
      · rw [if_neg e] at hs
        simp only [List.filter_cons, hs]
        have : (a ∈ b :: L ∧ t ∈ N a) ↔ (a ∈ L ∧ t ∈ N a) := by
          constructor
          · rintro ⟨h1, h2⟩
            rcases List.mem_cons.1 h1 with h1 | h1
            · exact absurd h1.symm e
            · exact ⟨h1, h2⟩
          · rintro ⟨h1, h2⟩; exact ⟨List.mem_cons_of_mem _ h1, h2⟩
        simp only [this]
        split
        · simp only [List.length_cons]; omega
        · exact ih
  have := key (List.range n) List.nodup_range
  rw [← this]
  have : (a ∈ List.range n ∧ t ∈ N a) ↔ t ∈ N a := ⟨fun h => h.2, fun h => ⟨List.mem_range.2 han, h⟩⟩
  simp only [this]
theorem ordS_len : ∀ (m : Nat) (l : List Bool) (row : List Nat), l.length = n → (ordS N n m l row).2.length = n
  | 0, l, row, h => h
  | m + 1, l, row, h => by
    unfold ordS
    split
    · exact h
    · exact ordS_len m _ _ (by rw [List.length_set]; exact h)
/-- Behind enough steps none is there to take. -/
theorem ordS_end : ∀ (m : Nat) (l : List Bool) (row : List Nat), cnt l ≤ m → zer N n (ordS N n m l row).2 = []
  | 0, l, row, h => by
    show zer N n l = []
    unfold zer
    rw [List.filter_eq_nil_iff]
    intro t _
    rw [cnt_zero (by omega) t]; simp
  | m + 1, l, row, h => by
    unfold ordS
    split
    · assumption
    · rename_i t r hz
      have ht : t ∈ zer N n l := by rw [hz]; exact List.mem_cons_self
      have := cnt_set (mem_zer.1 ht).2.1
      exact ordS_end m _ _ (by omega)
theorem ordS_cnt : ∀ (m : Nat) (l : List Bool) (row : List Nat), (ordS N n m l row).1.length + cnt (ordS N n m l row).2 = row.length + cnt l
  | 0, l, row => rfl
  | m + 1, l, row => by
    unfold ordS
    split
    · rfl
    · rename_i t r hz
      have ht : t ∈ zer N n l := by rw [hz]; exact List.mem_cons_self
      have h1 := cnt_set (mem_zer.1 ht).2.1
      rw [ordS_cnt m]
      rw [List.length_append]; simp; omega
theorem ordS_more : ∀ (m : Nat) (l : List Bool) (row : List Nat) (j : Nat), cnt l ≤ m → ordS N n (m + j) l row = ordS N n m l row
  | 0, l, row, j, h => by
    have hz : zer N n l = [] := ordS_end 0 l row h
    cases j with
    | zero => rfl
    | succ j => rw [Nat.zero_add]; simp only [ordS, hz]
  | m + 1, l, row, j, h => by
    rw [show m + 1 + j = (m + j) + 1 by omega, ordS, ordS]
    cases hz : zer N n l with
    | nil => rfl
    | cons t r =>
      have ht : t ∈ zer N n l := by rw [hz]; exact List.mem_cons_self
      have h1 := cnt_set (mem_zer.1 ht).2.1
      exact ordS_more m _ _ j (by omega)
end
end Go.Proofs.YtkjcjlegokdpdaaDoor.Pure
