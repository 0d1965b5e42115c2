/- Chapter 04: the places at which instructions begin, in plain terms. -/
import Derived.Test.YtdhiibkcoolbeaaDoorSt
import Derived.Test.YtdhiibkcoolbeaaDoorOs
import Derived.Test.YtdhiibkcoolbeaaDoorIo
namespace Go.Proofs.YtdhiibkcoolbeaaDoor.Pure
open Go.RowKit Go.Proofs.YtdhiibkcoolbeaaDoorW.PrintWords Go.Proofs.YtdhiibkcoolbeaaDoorW.PrintLast Go.Proofs.YtdhiibkcoolbeaaDoorW.PrintMore Go.Proofs.YtdhiibkcoolbeaaDoor.P
set_option linter.unusedVariables false
set_option linter.unusedSimpArgs false

section
variable {pl : Nat → Int} {n : Nat}
def nx (pl : Nat → Int) (i : Nat) : Nat := i + (mx (pl i) 1).toNat
theorem nx_gt (i : Nat) : i < nx pl i := by have := mx1 (pl i); unfold nx; omega
theorem beg_ind {q : Nat → List (Fin n) → Prop} (h0 : ∀ i, ¬ i < n → q i []) (h1 : ∀ i (h : i < n), q (nx pl i) (beg pl n (nx pl i)) → q i (⟨i, h⟩ :: beg pl n (nx pl i))) : ∀ i, q i (beg pl n i) := by
  have : ∀ m i, n - i ≤ m → q i (beg pl n i) := by
    intro m
    induction m with
    | zero => intro i hi; rw [beg_ge (by omega)]; exact h0 i (by omega)
    | succ m ih =>
      intro i hi
      by_cases h : i < n
      · rw [beg_lt h]; exact h1 i h (ih _ (by have := nx_gt (pl := pl) i; omega))
      · rw [beg_ge h]; exact h0 i h
  exact fun i => this (n - i) i (Nat.le_refl _)
theorem beg_le (i : Nat) : ∀ p ∈ beg pl n i, i ≤ p.1 := by
  refine beg_ind (q := fun i l => ∀ p ∈ l, i ≤ p.1) (fun i _ p hp => by simp at hp) (fun i h ih p hp => ?_) i
  rcases List.mem_cons.1 hp with rfl | hp
  · exact Nat.le_refl _
  · have := ih p hp; have := nx_gt (pl := pl) i; omega
theorem beg_next (i : Nat) : ∀ p ∈ beg pl n i, ∀ h : nx pl p.1 < n, (⟨nx pl p.1, h⟩ : Fin n) ∈ beg pl n i := by
  refine beg_ind (q := fun i l => ∀ p ∈ l, ∀ h : nx pl p.1 < n, (⟨nx pl p.1, h⟩ : Fin n) ∈ l) (fun i _ p hp => by simp at hp) (fun i h ih p hp hn => ?_) i
  rcases List.mem_cons.1 hp with rfl | hp
  · refine List.mem_cons_of_mem _ ?_
    have hn' : nx pl i < n := hn
    rw [beg_lt hn']
    exact List.mem_cons_self
  · exact List.mem_cons_of_mem _ (ih p hp hn)
theorem beg_gap (i : Nat) : ∀ p ∈ beg pl n i, ∀ r ∈ beg pl n i, p.1 < r.1 → nx pl p.1 ≤ r.1 := by
  refine beg_ind (q := fun i l => ∀ p ∈ l, ∀ r ∈ l, p.1 < r.1 → nx pl p.1 ≤ r.1) (fun i _ p hp => by simp at hp) (fun i h ih p hp r hr hlt => ?_) i
  rcases List.mem_cons.1 hp with rfl | hp
  · rcases List.mem_cons.1 hr with rfl | hr
    · exact absurd hlt (Nat.lt_irrefl _)
    · exact beg_le _ r hr
  · rcases List.mem_cons.1 hr with rfl | hr
    · have := beg_le (pl := pl) (n := n) _ p hp; have := nx_gt (pl := pl) i; simp at hlt; omega
    · exact ih p hp r hr hlt
theorem beg_last (i : Nat) : ∀ p ∈ beg pl n i, n ≤ nx pl p.1 → (beg pl n i).getLast? = some p := by
  refine beg_ind (q := fun i l => ∀ p ∈ l, n ≤ nx pl p.1 → l.getLast? = some p) (fun i _ p hp => by simp at hp) (fun i h ih p hp hn => ?_) i
  rcases List.mem_cons.1 hp with rfl | hp
  · rw [beg_ge (by simpa using hn)]; rfl
  · rw [List.getLast?_cons, ih p hp hn]; rfl
theorem beg_zero (h : 0 < n) : (⟨0, h⟩ : Fin n) ∈ beg pl n 0 := by rw [beg_lt h]; exact List.mem_cons_self
theorem beg_congr {pl' : Nat → Int} (h : ∀ i, i < n → pl i = pl' i) : ∀ i, beg pl n i = beg pl' n i := by
  refine beg_ind (q := fun i l => l = beg pl' n i) (fun i hi => (beg_ge hi).symm) (fun i hi ih => ?_)
  rw [ih, beg_lt hi, h i hi |> fun e => show nx pl i = nx pl' i by unfold nx; rw [e]]; rfl
/-- Does an instruction begin there? -/
def bg (pl : Nat → Int) (n i : Nat) : Bool := (beg pl n 0).any fun p => p.1 == i
theorem bg_iff {i : Nat} : bg pl n i = true ↔ ∃ h : i < n, (⟨i, h⟩ : Fin n) ∈ beg pl n 0 := by
  unfold bg
  rw [List.any_eq_true]
  constructor
  · rintro ⟨p, hp, e⟩
    have e : p.1 = i := by simpa using e
    subst e
    exact ⟨p.2, hp⟩
  · rintro ⟨h, hp⟩
    exact ⟨_, hp, by simp⟩
theorem marks_get (ps : List (Fin n)) : ∀ i : Nat, (marks ps).getD i false = ps.any fun p => p.1 == i := by
  have h : ∀ (ps : List (Fin n)) (l : List Bool), l.length = n → ∀ i : Nat, (ps.foldl (fun l p => l.set p.1 true) l).getD i false = (l.getD i false || ps.any fun p => p.1 == i) := by
    intro ps
    induction ps with
    | nil => intro l _ i; simp
    | cons p ps ih =>
      intro l hl i
      rw [List.foldl_cons, ih _ (by rw [List.length_set]; exact hl), List.any_cons]
      have hp : p.1 < l.length := by rw [hl]; exact p.2
      by_cases e : p.1 = i
      · subst e; simp [List.getD_eq_getElem?_getD, hp]
      · have e' : (p.1 == i) = false := by simpa using e
        simp [List.getD_eq_getElem?_getD, List.getElem?_set, e, e']
  intro i
  rw [marks, h ps _ (by simp) i]
  have : (List.replicate n false).getD i false = false := by simp [List.getD_eq_getElem?_getD, List.getElem?_replicate]; split <;> rfl
  rw [this, Bool.false_or]
theorem rd_marks {i : Int} (h : 0 ≤ i) : rdOf false (marks (beg pl n 0)) i = bg pl n i.toNat := by
  unfold rdOf bg; exact marks_get _ _
end
end Go.Proofs.YtdhiibkcoolbeaaDoor.Pure
