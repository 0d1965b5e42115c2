/- Chapter 05: what is reached. -/
import Derived.Test.YtkjcjlegokdpdaaDoorGk
import Derived.Test.YtkjcjlegokdpdaaDoorRd
import Derived.Test.YtkjcjlegokdpdaaDoorPx26
namespace Go.Proofs.YtkjcjlegokdpdaaDoor.Pure
open Go.RowKit Go.Proofs.YtkjcjlegokdpdaaDoorW.PrintWords Go.Proofs.YtkjcjlegokdpdaaDoorW.PrintLast Go.Proofs.YtkjcjlegokdpdaaDoorW.PrintMore Go.Proofs.YtkjcjlegokdpdaaDoor.P Go.Proofs.YtkjcjlegokdpdaaDoor.Opening
set_option linter.unusedVariables false
set_option linter.unusedSimpArgs false
theorem greach_l0 {C : List S44} (hC : ∀ z ∈ C, ok44 z) (hl : C.length ≤ 1000) (x : List Bool) (hx : x.length ≤ 1000) : ∀ (m i : Nat), x.length - i ≤ m → Ev (fun K => stockadelaw05_GraphReached.l0 K C C x (allN C C.length) x (i : Int)) true := by
  intro m
  have hend : ∀ i : Nat, ¬ i < x.length → Ev (fun K => stockadelaw05_GraphReached.l0 K C C x (allN C C.length) x (i : Int)) true := fun i h => by
    obtain ⟨r, ⟨K0, h0⟩, ⟨K1, h1⟩⟩ := dead_both hC hl
    refine ⟨2000 + K0 + K1, fun K hK => ?_⟩
    obtain ⟨k, rfl⟩ : ∃ k, K = k + 1 := ⟨K - 1, by omega⟩
    have e0 := h0 k (by omega)
    have e1 := h1 k (by omega)
    dsimp only at e0 e1 ⊢
    rw [stockadelaw05_GraphReached.l0, if_neg (by omega), e0, Option.bind_some, e1, Option.bind_some, if_pos rfl, kept_eq hl (by omega), Option.bind_some, if_pos rfl, wakes_ge (by omega)]; rfl
  induction m with
  | zero => exact fun i h => hend i (by omega)
  | succ m ih =>
    intro i h
    by_cases c : i < x.length
    rotate_left
    · exact hend i c
    refine Ev.step (fun K => ?_) (ih (i + 1) (by omega))
    rw [stockadelaw05_GraphReached.l0, if_pos (by omega), if_pos (by omega), if_pos (by omega), if_neg (by simp), wr1' (by omega)]
theorem GraphReached (l0 : List P.S44) (y0 : l0.length * 12 ≤ 140737488351232) (hw0 : ∀ z ∈ l0, Opening.ok44 z) : ∃ k, P.stockadelaw05_GraphReached.f k l0 = some true := by
  by_cases c : (l0.length : Int) > 130
  · refine ⟨40, ?_⟩
    unfold stockadelaw05_GraphReached.f
    rw [if_pos c, wakes_eq]; rfl
  · have hl : l0.length ≤ 1000 := by omega
    have hil := inR_len hw0 hl
    obtain ⟨K0, h0⟩ := rall_eq hw0 hl
    obtain ⟨K1, h1⟩ := rreach_eq hw0 hl
    obtain ⟨K2, h2⟩ := greach_l0 hw0 hl (inR l0) (by omega) (inR l0).length 0 (by omega)
    refine ⟨l0.length + 5 + (K0 + K1 + K2), ?_⟩
    have e0 := h0 (l0.length + 5 + (K0 + K1 + K2)) (by omega)
    have e1 := h1 (l0.length + 5 + (K0 + K1 + K2)) (by omega)
    have e2 := h2 (l0.length + 5 + (K0 + K1 + K2)) (by omega)
    dsimp only at e0 e1 e2
    unfold stockadelaw05_GraphReached.f
    rw [if_neg c, own_eq (by omega), Option.bind_some, Reached_eq hw0 (by omega), Option.bind_some, e0, Option.bind_some, e1, Option.bind_some, if_pos rfl]
    exact e2
end Go.Proofs.YtkjcjlegokdpdaaDoor.Pure
