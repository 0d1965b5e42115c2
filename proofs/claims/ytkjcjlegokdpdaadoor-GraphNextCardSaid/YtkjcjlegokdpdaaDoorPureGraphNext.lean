/- Chapter 05: to what any place leads. -/
import Derived.Test.YtkjcjlegokdpdaaDoorGk
import Derived.Test.YtkjcjlegokdpdaaDoorRn
import Derived.Test.YtkjcjlegokdpdaaDoorPx18
namespace Go.Proofs.YtkjcjlegokdpdaaDoor.Pure
open Go.RowKit Go.Proofs.YtkjcjlegokdpdaaDoorW.PrintWords Go.Proofs.YtkjcjlegokdpdaaDoorW.PrintLast Go.Proofs.YtkjcjlegokdpdaaDoorW.PrintMore Go.Proofs.YtkjcjlegokdpdaaDoor.P Go.Proofs.YtkjcjlegokdpdaaDoor.Opening
set_option linter.unusedVariables false
set_option linter.unusedSimpArgs false
theorem nxI_len (C : List S44) (a : Int) : (nxI C a).length ≤ C.length := by
  unfold nxI
  split
  · exact Nat.zero_le _
  · rw [toI_len]; exact nxt_len C _
theorem gnext_l0 {C : List S44} (hl : C.length ≤ 1000) (y : List Int) (hy : y.length ≤ 1000) : ∀ (m i : Nat) (x : List Int), x.length ≤ 1000 → x.length - i ≤ m → Ev (fun K => stockadelaw05_GraphNext.l0 K C C x y y true (i : Int)) true := by
  have hend : ∀ (i : Nat) (x : List Int), ¬ i < x.length → Ev (fun K => stockadelaw05_GraphNext.l0 K C C x y y true (i : Int)) true := fun i x h => by
    refine ⟨2000, fun K hK => ?_⟩
    obtain ⟨k, rfl⟩ : ∃ k, K = k + 1 := ⟨K - 1, by omega⟩
    show stockadelaw05_GraphNext.l0 (k + 1) C C x y y true (i : Int) = _
    rw [stockadelaw05_GraphNext.l0, if_neg (by omega), if_pos rfl, ints_same (by omega) (by omega), Option.bind_some, if_pos rfl, kept_eq hl (by omega), Option.bind_some, if_pos rfl, wakes_ge (by omega)]; rfl
  intro m
  induction m with
  | zero => exact fun i x hx h => hend i x (by omega)
  | succ m ih =>
    intro i x hx h
    by_cases c : i < x.length
    rotate_left
    · exact hend i x c
    refine Ev.step (fun K => ?_) (ih (i + 1) (x.set i (-7)) (by rw [List.length_set]; exact hx) (by rw [List.length_set]; omega))
    rw [stockadelaw05_GraphNext.l0, if_pos (by omega), if_pos (by omega), Int.toNat_natCast, show wrap64 ((i : Int) + 1) = ((i + 1 : Nat) : Int) from wrN (a := i) (b := 1) (by omega)]
theorem GraphNext (l0 : List P.S44) (a1 : Int) (y0 : l0.length * 12 ≤ 140737488351232) (hw0 : ∀ z ∈ l0, Opening.ok44 z) (w1 : (Lit.int .i64 a1).wf = true) : ∃ k, P.stockadelaw05_GraphNext.f k l0 a1 = some true := by
  by_cases c : (l0.length : Int) > 130
  · refine ⟨40, ?_⟩
    unfold stockadelaw05_GraphNext.f
    rw [if_pos c, wakes_eq]; rfl
  · have hl : l0.length ≤ 1000 := by omega
    have hn := nxI_len l0 a1
    obtain ⟨K0, h0⟩ := rnext_eq hw0 hl a1
    obtain ⟨K1, h1⟩ := gnext_l0 hl (nxI l0 a1) (by omega) (nxI l0 a1).length 0 (nxI l0 a1) (by omega) (by omega)
    refine ⟨l0.length + 5 + (K0 + K1 + 1), ?_⟩
    have e0 := h0 (l0.length + 5 + (K0 + K1 + 1)) (by omega)
    have e1 := h1 (l0.length + 5 + (K0 + K1 + 1)) (by omega)
    dsimp only at e0 e1
    unfold stockadelaw05_GraphNext.f
    rw [if_neg c, own_eq (by omega), Option.bind_some, Next_eq hw0 (by omega), Option.bind_some, Option.bind_some, e0, Option.bind_some, ints_same (by omega) (by omega), Option.bind_some]
    exact e1
end Go.Proofs.YtkjcjlegokdpdaaDoor.Pure
