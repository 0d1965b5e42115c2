/- Chapter 05: to what all places lead. -/
import Derived.Test.YtkjcjlegokdpdaaDoorGq
namespace Go.Proofs.YtkjcjlegokdpdaaDoor.Pure
open Go.RowKit Go.Proofs.YtkjcjlegokdpdaaDoorW.PrintWords Go.Proofs.YtkjcjlegokdpdaaDoorW.PrintLast Go.Proofs.YtkjcjlegokdpdaaDoorW.PrintMore Go.Proofs.YtkjcjlegokdpdaaDoor.P Go.Proofs.YtkjcjlegokdpdaaDoor.Opening
set_option linter.unusedVariables false
set_option linter.unusedSimpArgs false

/-- To what all places lead. -/
def allN (C : List S44) (i : Nat) : List (List Int) := (List.range i).map fun a => toI (nxt C a)
theorem allN_len (C : List S44) (i : Nat) : (allN C i).length = i := by simp [allN]
theorem allN_rd {C : List S44} {n a : Nat} (h : a < n) : rd_L8 (allN C n) (a : Int) = toI (nxt C a) := by
  unfold rd_L8 allN
  rw [Int.toNat_natCast, List.getD_eq_getElem?_getD, List.getElem?_map, List.getElem?_range h]; rfl
theorem ordS_nil {N : Nat → List Nat} {n : Nat} {l : List Bool} (h : zer N n l = []) : ∀ (m : Nat) (row : List Nat), ordS N n m l row = (row, l)
  | 0, row => rfl
  | m + 1, row => by rw [ordS, h]
theorem ordS_cons {N : Nat → List Nat} {n : Nat} {l : List Bool} {t : Nat} {r : List Nat} (h : zer N n l = t :: r) (m : Nat) (row : List Nat) : ordS N n (m + 1) l row = ordS N n m (l.set t false) (row ++ [t]) := by rw [ordS, h]
theorem ordS_pre {N : Nat → List Nat} {n : Nat} : ∀ (m : Nat) (l : List Bool) (row : List Nat), ∃ s, (ordS N n m l row).1 = row ++ s
  | 0, l, row => ⟨[], by simp [ordS]⟩
  | m + 1, l, row => by
    cases h : zer N n l with
    | nil => rw [ordS_nil h]; exact ⟨[], by simp⟩
    | cons t r =>
      rw [ordS_cons h]
      obtain ⟨s, e⟩ := ordS_pre (N := N) (n := n) m (l.set t false) (row ++ [t])
      exact ⟨t :: s, by rw [e]; simp⟩
theorem allN_succ (C : List S44) (i : Nat) : allN C (i + 1) = allN C i ++ [toI (nxt C i)] := by
  unfold allN
  rw [List.range_succ, List.map_append]; rfl
end Go.Proofs.YtkjcjlegokdpdaaDoor.Pure
