/- Chapter 05: what the laws' helpers come to. -/
import Derived.Test.YtkjcjlegokdpdaaDoorGq
import Derived.Test.YtkjcjlegokdpdaaDoorPureWakes
import Derived.Test.YtkjcjlegokdpdaaDoorPx11
import Derived.Test.YtkjcjlegokdpdaaDoorPx7
namespace Go.Proofs.YtkjcjlegokdpdaaDoor.Pure
open Go.RowKit Go.Proofs.YtkjcjlegokdpdaaDoorW.PrintWords Go.Proofs.YtkjcjlegokdpdaaDoorW.PrintLast Go.Proofs.YtkjcjlegokdpdaaDoorW.PrintMore Go.Proofs.YtkjcjlegokdpdaaDoor.P Go.Proofs.YtkjcjlegokdpdaaDoor.Opening
set_option linter.unusedVariables false
set_option linter.unusedSimpArgs false

theorem wakes_at : ∀ k, stockadelaw05_wakes.f (40 + k) = some true
  | 0 => wakes_eq
  | k + 1 => stockadelaw05_wakes.mono (40 + k) _ (wakes_at k)
theorem wakes_ge {k : Nat} (h : 40 ≤ k) : stockadelaw05_wakes.f k = some true := by
  have := wakes_at (k - 40)
  rwa [show 40 + (k - 40) = k by omega] at this
theorem ints_l0 (l : List Int) (hl : l.length ≤ 1000000) : ∀ (K i : Nat), i ≤ l.length → l.length - i < K → stockadelaw05_ints.l0 K l l (i : Int) = some true
  | 0, i, _, h => by omega
  | K + 1, i, hi, h => by
    rw [stockadelaw05_ints.l0]
    by_cases c : (i : Int) < (l.length : Int)
    · rw [if_pos c, if_pos (by omega), if_pos c, if_pos rfl, show wrap64 ((i : Int) + 1) = ((i + 1 : Nat) : Int) by unfold wrap64; omega]
      exact ints_l0 l hl K (i + 1) (by omega) (by omega)
    · rw [if_neg c]
theorem ints_same {l : List Int} {k : Nat} (hl : l.length ≤ 1000000) (hk : l.length < k) : stockadelaw05_ints.f k l l = some true := by
  unfold stockadelaw05_ints.f
  rw [if_pos rfl]
  exact ints_l0 l hl k 0 (by omega) (by omega)
theorem own_eq {C : List S44} (h : C.length ≤ 1000000) : stockadelaw05_own.f C = some C := by
  unfold stockadelaw05_own.f
  rw [if_pos (by simp; omega), Option.bind_some, List.nil_append, if_pos (by omega), Option.bind_some, if_pos (by omega), if_pos (by simp; omega), Int.toNat_natCast, List.take_append_of_le_length (Nat.le_refl _), List.take_length]
theorem Reached_eq {C : List S44} (hC : ∀ z ∈ C, ok44 z) (hl : C.length ≤ 1000) (k : Nat) : graph_Reached.f (C.length + 5 + k) C = some (inR C) := by
  unfold graph_Reached.f
  rw [starts_eq hC (by omega), Option.bind_some]
  obtain ⟨F, h, _⟩ := inR_eq hC hl
  rw [h]; rfl
theorem ordR_len {C : List S44} (hC : ∀ z ∈ C, ok44 z) (hl : C.length ≤ 1000) : (ordR C).1.length ≤ C.length := by
  unfold ordR
  split
  · rw [toI_len]
    have h1 := ordS_cnt (N := nxt C) (n := C.length) C.length (inR C) []
    have h2 := cnt_le (inR C)
    have h3 := inR_len hC hl
    simp at h1; omega
  · exact Nat.zero_le _
theorem rdn_set {X : List S44} {i : Nat} {v : S44} (h : i < X.length) (j : Nat) : rdn (X.set i v) j = if j = i then v else rdn X j := by
  unfold rdn rd_T44
  rw [Int.toNat_natCast, List.getD_eq_getElem?_getD, List.getD_eq_getElem?_getD]
  by_cases e : j = i
  · subst e; rw [if_pos rfl, List.getElem?_set_self h]; rfl
  · rw [if_neg e, List.getElem?_set_ne (Ne.symm e)]
end Go.Proofs.YtkjcjlegokdpdaaDoor.Pure
