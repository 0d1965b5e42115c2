/- Chapter 05: Dead, the program's and the document's. -/
import Derived.Test.YtkjcjlegokdpdaaDoorRr
import Derived.Test.YtkjcjlegokdpdaaDoorPx9
import Derived.Test.YtkjcjlegokdpdaaDoorPx25
namespace Go.Proofs.YtkjcjlegokdpdaaDoor.Pure
open Go.RowKit Go.Proofs.YtkjcjlegokdpdaaDoorW.PrintWords Go.Proofs.YtkjcjlegokdpdaaDoorW.PrintLast Go.Proofs.YtkjcjlegokdpdaaDoorW.PrintMore Go.Proofs.YtkjcjlegokdpdaaDoor.P Go.Proofs.YtkjcjlegokdpdaaDoor.Opening
set_option linter.unusedVariables false
set_option linter.unusedSimpArgs false
/-- The first start that is not reached. -/
def lonely (C : List S44) (i : Nat) : Bool := bgR C i && !(at_ (inR C) i)
def isDead (C : List S44) (r : Int) : Prop := (∃ i : Nat, r = (i : Int) ∧ i < C.length ∧ lonely C i = true ∧ ∀ j, j < i → lonely C j = false) ∨ r = -1 ∧ ∀ j, j < C.length → lonely C j = false
theorem isDead_one {C : List S44} {r s : Int} (h : isDead C r) (h' : isDead C s) : r = s := by
  rcases h with ⟨i, e, hi, hl, hj⟩ | ⟨e, hj⟩
  · rcases h' with ⟨i', e', hi', hl', hj'⟩ | ⟨e', hj'⟩
    · rcases Nat.lt_trichotomy i i' with c | c | c
      · have := hj' i c; rw [hl] at this; exact absurd this (by decide)
      · rw [e, e', c]
      · have := hj i' c; rw [hl'] at this; exact absurd this (by decide)
    · have := hj' i hi; rw [hl] at this; exact absurd this (by decide)
  · rcases h' with ⟨i', e', hi', hl', hj'⟩ | ⟨e', hj'⟩
    · have := hj i' hi'; rw [hl'] at this; exact absurd this (by decide)
    · rw [e, e']
section
variable {C : List S44} (hC : ∀ z ∈ C, ok44 z) (hl : C.length ≤ 1000)
include hC hl
theorem dead_l0 : ∀ (m i : Nat), C.length - i ≤ m → i ≤ C.length → (∀ j, j < i → lonely C j = false) → ∃ r, isDead C r ∧ Ev (fun K => graph_Dead.l0 K (stC C) (inR C) (C.length : Int) (i : Int)) r := by
  intro m
  have hil := inR_len hC hl
  have hsl := stC_len C
  have hend : ∀ i : Nat, ¬ i < C.length → i ≤ C.length → (∀ j, j < i → lonely C j = false) → ∃ r, isDead C r ∧ Ev (fun K => graph_Dead.l0 K (stC C) (inR C) (C.length : Int) (i : Int)) r := fun i h1 h2 h3 => by
    have e : i = C.length := by omega
    subst e
    refine ⟨-1, Or.inr ⟨rfl, h3⟩, Ev.of_eq 1 fun K => ?_⟩
    show graph_Dead.l0 (K + 1) _ _ _ _ = _
    rw [graph_Dead.l0, if_neg (by omega)]
  induction m with
  | zero => exact fun i h1 h2 h3 => hend i (by omega) h2 h3
  | succ m ih =>
    intro i h1 h2 h3
    by_cases hi : i < C.length
    rotate_left
    · exact hend i hi h2 h3
    have hsi := stC_rd hi
    have hn : lonely C i = false → ∃ r, isDead C r ∧ Ev (fun K => graph_Dead.l0 K (stC C) (inR C) (C.length : Int) ((i + 1 : Nat) : Int)) r := fun h => ih (i + 1) (by omega) (by omega) fun j hj => by
      rcases Nat.lt_or_ge j i with c | c
      · exact h3 j c
      · have : j = i := by omega
        rw [this]; exact h
    have hlo : lonely C i = (bgR C i && !(at_ (inR C) i)) := rfl
    by_cases cs : bgR C i = true
    rotate_left
    · obtain ⟨r, hd, he⟩ := hn (by rw [hlo]; simp [cs])
      refine ⟨r, hd, Ev.step (fun K => ?_) he⟩
      rw [graph_Dead.l0, if_pos (by omega), if_pos (by omega), if_pos (by omega), hsi, if_neg cs, wr1' (by omega)]
    by_cases ci : at_ (inR C) i = true
    · obtain ⟨r, hd, he⟩ := hn (by rw [hlo]; simp [ci])
      refine ⟨r, hd, Ev.step (fun K => ?_) he⟩
      rw [graph_Dead.l0, if_pos (by omega), if_pos (by omega), if_pos (by omega), hsi, if_pos cs, if_pos (by omega), rdOf_at, if_pos ci, wr1' (by omega)]
    · refine ⟨(i : Int), Or.inl ⟨i, rfl, hi, by rw [hlo]; simp [cs, ci], h3⟩, Ev.of_eq 1 fun K => ?_⟩
      show graph_Dead.l0 (K + 1) _ _ _ _ = _
      rw [graph_Dead.l0, if_pos (by omega), if_pos (by omega), if_pos (by omega), hsi, if_pos cs, if_pos (by omega), rdOf_at, if_neg ci]
theorem rdead_l0 : ∀ (m i : Nat), C.length - i ≤ m → i ≤ C.length → (∀ j, j < i → lonely C j = false) → ∃ r, isDead C r ∧ Ev (fun K => stockaderef05_Dead.l0 K C (inR C) (i : Int)) r := by
  intro m
  have hil := inR_len hC hl
  have hend : ∀ i : Nat, ¬ i < C.length → i ≤ C.length → (∀ j, j < i → lonely C j = false) → ∃ r, isDead C r ∧ Ev (fun K => stockaderef05_Dead.l0 K C (inR C) (i : Int)) r := fun i h1 h2 h3 => by
    have e : i = C.length := by omega
    subst e
    refine ⟨-1, Or.inr ⟨rfl, h3⟩, Ev.of_eq 1 fun K => ?_⟩
    show stockaderef05_Dead.l0 (K + 1) _ _ _ = _
    rw [stockaderef05_Dead.l0, if_neg (by omega)]
  induction m with
  | zero => exact fun i h1 h2 h3 => hend i (by omega) h2 h3
  | succ m ih =>
    intro i h1 h2 h3
    by_cases hi : i < C.length
    rotate_left
    · exact hend i hi h2 h3
    have hn : lonely C i = false → ∃ r, isDead C r ∧ Ev (fun K => stockaderef05_Dead.l0 K C (inR C) ((i + 1 : Nat) : Int)) r := fun h => ih (i + 1) (by omega) (by omega) fun j hj => by
      rcases Nat.lt_or_ge j i with c | c
      · exact h3 j c
      · have : j = i := by omega
        rw [this]; exact h
    have hlo : lonely C i = (bgR C i && !(at_ (inR C) i)) := rfl
    by_cases ci : at_ (inR C) i = true
    · obtain ⟨r, hd, he⟩ := hn (by rw [hlo]; simp [ci])
      refine ⟨r, hd, Ev.step (fun K => ?_) he⟩
      rw [stockaderef05_Dead.l0, if_pos (by omega), if_pos (by omega), if_pos (by omega), rdOf_at, if_pos ci, wr1' (by omega)]
    obtain ⟨K1, hst⟩ := rstart_eq hC hl hi
    by_cases cs : bgR C i = true
    · refine ⟨(i : Int), Or.inl ⟨i, rfl, hi, by rw [hlo]; simp [cs, ci], h3⟩, K1 + 1, fun K hK => ?_⟩
      obtain ⟨k, rfl⟩ : ∃ k, K = k + 1 := ⟨K - 1, by omega⟩
      have e1 := hst k (by omega)
      dsimp only at e1 ⊢
      rw [stockaderef05_Dead.l0, if_pos (by omega), if_pos (by omega), if_pos (by omega), rdOf_at, if_neg ci, e1, Option.bind_some, if_pos cs]
    · obtain ⟨r, hd, K0, he⟩ := hn (by rw [hlo]; simp [cs])
      refine ⟨r, hd, K0 + K1 + 1, fun K hK => ?_⟩
      obtain ⟨k, rfl⟩ : ∃ k, K = k + 1 := ⟨K - 1, by omega⟩
      have e1 := hst k (by omega)
      have e0 := he k (by omega)
      dsimp only at e0 e1 ⊢
      rw [stockaderef05_Dead.l0, if_pos (by omega), if_pos (by omega), if_pos (by omega), rdOf_at, if_neg ci, e1, Option.bind_some, if_neg cs, wr1' (by omega)]
      exact e0
/-- Both tell the same. -/
theorem dead_both : ∃ r, Ev (fun K => graph_Dead.f K C) r ∧ Ev (fun K => stockaderef05_Dead.f K C (allN C C.length)) r := by
  obtain ⟨r, hd, K0, h0⟩ := dead_l0 hC hl C.length 0 (by omega) (by omega) (fun j hj => by omega)
  obtain ⟨s, hs, h1⟩ := rdead_l0 hC hl C.length 0 (by omega) (by omega) (fun j hj => by omega)
  have e := isDead_one hd hs
  subst e
  refine ⟨r, ⟨C.length + 5 + K0, fun K hK => ?_⟩, ?_⟩
  · obtain ⟨k, rfl⟩ : ∃ k, K = C.length + 5 + k := ⟨K - (C.length + 5), by omega⟩
    obtain ⟨F, hF, _⟩ := inR_eq hC hl
    have e0 := h0 (C.length + 5 + k) (by omega)
    dsimp only at e0 ⊢
    unfold graph_Dead.f
    rw [starts_eq hC (by omega), Option.bind_some, hF, Option.bind_some]
    exact e0
  · obtain ⟨K2, h2⟩ := rreach_eq hC hl
    obtain ⟨K1, h1⟩ := h1
    refine ⟨K1 + K2, fun K hK => ?_⟩
    have e1 := h1 K (by omega)
    have e2 := h2 K (by omega)
    dsimp only at e1 e2 ⊢
    unfold stockaderef05_Dead.f
    rw [e2, Option.bind_some]
    exact e1
end
end Go.Proofs.YtkjcjlegokdpdaaDoor.Pure
