/- Chapter 04: the law ShapeStarts: the program's Starts, Target and Helper answer as the document's; the list is new. -/
import Derived.Test.YtdhiibkcoolbeaaDoorPx16
import Derived.Test.YtdhiibkcoolbeaaDoorPureAwake
import Derived.Test.YtdhiibkcoolbeaaDoorIs
namespace Go.Proofs.YtdhiibkcoolbeaaDoor.Pure
open Go.RowKit Go.Proofs.YtdhiibkcoolbeaaDoorW.PrintWords Go.Proofs.YtdhiibkcoolbeaaDoorW.PrintLast Go.Proofs.YtdhiibkcoolbeaaDoorW.PrintMore Go.Proofs.YtdhiibkcoolbeaaDoor.P Go.Proofs.YtdhiibkcoolbeaaDoor.Opening
set_option linter.unusedVariables false
set_option linter.unusedSimpArgs false

section
variable {C : List S40}
theorem ss_l1 (hl : C.length < 140737488355328) (a : Int) : ∀ (m i k : Nat), C.length - i = m → i ≤ C.length → stockadelaw04_ShapeStarts.l1 (m + 1 + k) a (stC C) (stC C) C (C.length : Int) (i : Int) = some true
  | 0, i, k, hm, hi => by
    rw [show 0 + 1 + k = k + 1 by omega]
    unfold stockadelaw04_ShapeStarts.l1
    rw [if_neg (by omega), awake_eq]; rfl
  | m + 1, i, k, hm, hi => by
    have hw : wrap64 ((i : Int) + 1) = ((i + 1 : Nat) : Int) := by rw [fitW (by omega) (by omega)]; rfl
    have ih := ss_l1 hl a m (i + 1) k (by omega) (by omega)
    rw [show m + 1 + 1 + k = (m + 1 + k) + 1 by omega]
    unfold stockadelaw04_ShapeStarts.l1
    rw [if_pos (by omega), if_pos (by omega), if_pos (by omega), if_pos (by rw [stC_len]; omega), if_pos (by rw [stC_len]; omega), if_neg (by simp), hw]
    unfold shape_Target.f stockaderef04_Target.f
    rw [Option.bind_some, Option.bind_some, if_pos rfl]
    exact ih
theorem set_rd {l : List Bool} {i : Nat} {b : Bool} {j : Int} (hj : (i : Int) < j) : rdOf false (l.set i b) j = rdOf false l j := by
  unfold rdOf
  rw [List.getD_eq_getElem?_getD, List.getD_eq_getElem?_getD, List.getElem?_set_ne (by omega)]
theorem ss_l0 (hC : ∀ z ∈ C, ok40 z) (hl : C.length < 140737488355328) (a : Int) : ∀ (m i k : Nat) (x : List Bool), C.length - i = m → i ≤ C.length → x.length = C.length → (∀ j : Nat, i ≤ j → rdOf false x (j : Int) = rdOf false (stC C) (j : Int)) →
    stockadelaw04_ShapeStarts.l0 (m + 2 + C.length + k) C a x (stC C) (C.length : Int) (i : Int) = some true
  | 0, i, k, x, hm, hi, hx, hr => by
    rw [show 0 + 2 + C.length + k = (C.length + 1 + k) + 1 by omega]
    unfold stockadelaw04_ShapeStarts.l0
    rw [if_neg (by omega), Starts_eq hC (by omega), Option.bind_some]
    exact ss_l1 hl a C.length 0 k (by omega) (by omega)
  | m + 1, i, k, x, hm, hi, hx, hr => by
    have hw : wrap64 ((i : Int) + 1) = ((i + 1 : Nat) : Int) := by rw [fitW (by omega) (by omega)]; rfl
    rw [show m + 1 + 2 + C.length + k = (m + 2 + C.length + k) + 1 by omega]
    unfold stockadelaw04_ShapeStarts.l0
    rw [if_pos (by omega), if_pos (by omega), if_pos (by rw [hx]; omega), if_pos (by rw [stC_len]; omega), hr i (Nat.le_refl _), if_neg (by simp), hw]
    refine ss_l0 hC hl a m (i + 1) k _ (by omega) (by omega) (by rw [List.length_set]; exact hx) (fun j hj => ?_)
    rw [Int.toNat_natCast, set_rd (by omega)]
    exact hr j (by omega)
end
theorem ShapeStarts (l0 : List S40) (a1 : Int) (a2 : Int) (y0 : l0.length * 12 ≤ 140737488351232) (hw0 : ∀ z ∈ l0, ok40 z) (w1 : (Lit.int .i64 a1).wf = true) (w2 : (Lit.int .i32 a2).wf = true) : ∃ k, P.stockadelaw04_ShapeStarts.f k l0 a1 a2 = some true := by
  have hl : l0.length < 140737488355328 := by omega
  obtain ⟨K, hK⟩ : ∃ K, K = l0.length + 201 + (l0.length + 2) := ⟨_, rfl⟩
  refine ⟨K + 1, ?_⟩
  unfold stockadelaw04_ShapeStarts.f
  have hr := refStarts_eq hw0 hl (l0.length + 3)
  rw [show l0.length + 201 + (l0.length + 3) = K + 1 by omega] at hr
  have hs := ss_l0 hw0 hl a1 l0.length 0 201 (stC l0) (by omega) (by omega) (stC_len l0) (fun _ _ => rfl)
  rw [show l0.length + 2 + l0.length + 201 = K by omega] at hs
  rw [Starts_eq hw0 (by omega), Option.bind_some, hr, Option.bind_some, if_pos rfl, Helper_eq, Option.bind_some, refHelper_eq, Option.bind_some]
  have hb : (helpB a2 != helpB a2) = false := by simp
  rw [hb]
  unfold stockadelaw04_ShapeStarts.j0
  dsimp only
  rw [if_neg (by simp), stC_len]
  exact hs
end Go.Proofs.YtdhiibkcoolbeaaDoor.Pure
