/- Chapter 04: what alone tells hangs on an instruction and the one behind it. -/
import Derived.Test.YtdhiibkcoolbeaaDoorIt
namespace Go.Proofs.YtdhiibkcoolbeaaDoor.Pure
open Go.RowKit Go.Proofs.YtdhiibkcoolbeaaDoorW.PrintWords Go.Proofs.YtdhiibkcoolbeaaDoorW.PrintLast Go.Proofs.YtdhiibkcoolbeaaDoorW.PrintMore Go.Proofs.YtdhiibkcoolbeaaDoor.P Go.Proofs.YtdhiibkcoolbeaaDoor.Opening
set_option linter.unusedVariables false
set_option linter.unusedSimpArgs false

theorem of_zero {M : List S52} {C : List S40} {i : Nat} (h : alE M C i = 0) : (ofx (rdn C i)).2.2.2.2.2 = 0 := by
  unfold alE at h
  by_cases c : (ofx (rdn C i)).2.2.2.2.2 = 0
  · exact c
  · simp only [c, ne_eq, not_false_eq_true, if_true] at h
theorem pl_of {x : S40} (h : (ofx x).2.2.2.2.2 = 0) : plx x = if (ofx x).1 = 10 ∨ (ofx x).1 = 11 then 2 else 1 := by
  have h' : (ofV x.f0 x.f1 x.f2 x.f3 x.f4).2.2.2.2.2 = 0 := h
  have e := (of_ok h').1
  unfold plx placesV
  rw [if_pos h]
  unfold ofx
  rw [e]; rfl
theorem al_wide {M : List S52} {C : List S40} {i : Nat} (h : alE M C i = 0) (hc : (ofx (rdn C i)).1 = 10 ∨ (ofx (rdn C i)).1 = 11) : i + 1 ≠ C.length ∧ ((ofx (rdn C i)).1 = 11 → 0 ≤ (rdn C i).f4 ∧ (rdn C i).f4 < M.length) := by
  have h0 := of_zero h
  unfold alE at h
  simp only [h0, ne_eq, not_true_eq_false, if_false, hc, if_true] at h
  by_cases ce : i + 1 = C.length
  · rw [if_pos ce] at h; exact absurd h (by decide)
  · rw [if_neg ce] at h
    refine ⟨ce, fun h11 => ?_⟩
    split at h
    · exact absurd h (by decide)
    · split at h
      · exact absurd h (by decide)
      · rename_i h2
        have := fun x => h2 ⟨h11, x⟩
        omega
theorem al_call {M : List S52} {C : List S40} {i : Nat} (h : alE M C i = 0) (hc : (ofx (rdn C i)).1 = 8) : helpB (rdn C i).f4 = true := by
  have h0 := of_zero h
  unfold alE at h
  simp only [h0, ne_eq, not_true_eq_false, if_false, hc, true_and] at h
  rw [if_neg (by decide)] at h
  split at h
  · exact absurd h (by decide)
  · rename_i h2
    unfold helpB
    exact decide_eq_true (Decidable.byContradiction h2)
theorem alE_congr {M : List S52} {C C' : List S40} {i : Nat} (h0 : rdn C' i = rdn C i) (h1 : (ofx (rdn C i)).1 = 10 ∨ (ofx (rdn C i)).1 = 11 → (i + 1 = C'.length ↔ i + 1 = C.length) ∧ (i + 1 ≠ C.length → rdn C' (i + 1) = rdn C (i + 1))) : alE M C' i = alE M C i := by
  unfold alE
  rw [h0]
  dsimp only
  by_cases hc : (ofx (rdn C i)).1 = 10 ∨ (ofx (rdn C i)).1 = 11
  · obtain ⟨e, hr⟩ := h1 hc
    rw [if_pos hc, if_pos hc]
    by_cases ce : i + 1 = C.length
    · rw [if_pos ce, if_pos (e.2 ce)]
    · rw [if_neg ce, if_neg (fun x => ce (e.1 x)), hr ce]
  · rw [if_neg hc, if_neg hc]
theorem alE_more {M M' : List S52} {C : List S40} {i : Nat} (hM : M.length ≤ M'.length) (h : alE M C i = 0) : alE M' C i = 0 := by
  unfold alE at h ⊢
  dsimp only at h ⊢
  split
  · rename_i c; rw [if_pos c] at h; exact h
  · rename_i c
    rw [if_neg c] at h
    split
    · rename_i c1
      rw [if_pos c1] at h
      split
      · rename_i c2; rw [if_pos c2] at h; exact h
      · rename_i c2
        rw [if_neg c2] at h
        split
        · rename_i c3; rw [if_pos c3] at h; exact h
        · rename_i c3
          rw [if_neg c3] at h
          split at h
          · exact absurd h (by decide)
          · rename_i c4
            rw [if_neg]
            intro hx
            refine c4 ⟨hx.1, ?_⟩
            rcases hx.2 with h5 | h5
            · exact .inl h5
            · exact .inr (by omega)
    · rename_i c1; rw [if_neg c1] at h; exact h
theorem toF_congr {C C' : List S40} {i : Nat} (h : rdn C' i = rdn C i) : toF C' i = toF C i := by
  unfold toF
  rw [show rd_T40 C' (i : Int) = rd_T40 C (i : Int) from h]
end Go.Proofs.YtdhiibkcoolbeaaDoor.Pure
