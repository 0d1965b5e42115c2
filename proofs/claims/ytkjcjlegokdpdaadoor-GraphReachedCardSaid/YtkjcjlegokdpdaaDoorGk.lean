/- Chapter 05: code that was not changed is kept. -/
import Derived.Test.YtkjcjlegokdpdaaDoorGh
import Derived.Test.YtkjcjlegokdpdaaDoorKp
namespace Go.Proofs.YtkjcjlegokdpdaaDoor.Pure
open Go.RowKit Go.Proofs.YtkjcjlegokdpdaaDoorW.PrintWords Go.Proofs.YtkjcjlegokdpdaaDoorW.PrintLast Go.Proofs.YtkjcjlegokdpdaaDoorW.PrintMore Go.Proofs.YtkjcjlegokdpdaaDoor.P Go.Proofs.YtkjcjlegokdpdaaDoor.Opening
set_option linter.unusedVariables false
set_option linter.unusedSimpArgs false
def mark : S44 := ⟨149, 0, 0, 7, 0⟩
theorem rd_pre {C : List S44} {i : Nat} (h : i < C.length) : rd_T44 (C ++ [mark]) (i : Int) = rd_T44 C (i : Int) := by
  unfold rd_T44
  rw [List.getD_eq_getElem?_getD, List.getD_eq_getElem?_getD, Int.toNat_natCast, List.getElem?_append_left h]
theorem rd_mark {C : List S44} : rd_T44 (C ++ [mark]) (C.length : Int) = mark := by
  unfold rd_T44
  rw [List.getD_eq_getElem?_getD, Int.toNat_natCast, List.getElem?_append_right (Nat.le_refl _), Nat.sub_self]; rfl
theorem kept_l0 (C : List S44) (hl : C.length ≤ 1000) : ∀ (K i : Nat), i ≤ C.length → C.length - i < K → kept2.l0 K (C ++ [mark]) C (i : Int) = some true
  | 0, i, _, h => by omega
  | K + 1, i, hi, h => by
    have hal : (C ++ [mark]).length = C.length + 1 := by rw [List.length_append]; rfl
    rw [kept2.l0]
    by_cases c : i < C.length
    · rw [if_pos (by omega), if_pos (by omega), if_pos (by omega), rd_pre c, if_neg (by simp), show wrap64 ((i : Int) + 1) = ((i + 1 : Nat) : Int) by unfold wrap64; omega]
      exact kept_l0 C hl K (i + 1) (by omega) (by omega)
    · have hw : wrap64 ((C.length : Int) + 1) = ((C.length + 1 : Nat) : Int) := by unfold wrap64; omega
      rw [if_neg (by omega), hw, if_pos (by omega), if_pos (by omega), Option.bind_some, Int.toNat_natCast, List.take_of_length_le (by omega), if_pos (by omega), if_pos (by omega), rd_mark]
      rfl
theorem kept_eq {C : List S44} (hl : C.length ≤ 1000) {k : Nat} (hk : C.length < k) : kept2.f k (C ++ [(⟨149, 0, 0, 7, 0⟩ : S44)]) C = some true := kept_l0 C hl k 0 (by omega) (by omega)
end Go.Proofs.YtkjcjlegokdpdaaDoor.Pure
