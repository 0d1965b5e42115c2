/- Chapter 02: the law InsnReads in plain terms. -/
import Derived.Test.YtkojjjdeacdabaaDoorPx13
import Derived.Test.YtkojjjdeacdabaaDoorIe
import Derived.Test.YtkojjjdeacdabaaDoorIf
namespace Go.Proofs.YtkojjjdeacdabaaDoor.Pure
open Go.RowKit Go.Proofs.YtkojjjdeacdabaaDoorW.PrintWords Go.Proofs.YtkojjjdeacdabaaDoorW.PrintLast Go.Proofs.YtkojjjdeacdabaaDoorW.PrintMore Go.Proofs.YtkojjjdeacdabaaDoor.P
set_option linter.unusedVariables false
set_option linter.unusedSimpArgs false

theorem same_self (l : List Int) (hl : l.length < 4611686018427387904) : ∀ (n i k : Nat), l.length - i = n → i ≤ l.length → n < k → stockadelaw02_same.l0 k l l i = some true
  | n, i, 0, _, _, hk => by omega
  | n, i, k + 1, hn, hi, hk => by
    unfold stockadelaw02_same.l0
    by_cases c : i < l.length
    · have ew : wrap64 ((i : Int) + 1) = ((i + 1 : Nat) : Int) := by rw [fitW (by omega) (by omega)]; omega
      rw [if_pos (by omega), if_pos (by omega), if_pos (by omega), if_pos rfl, ew, same_self l hl (n - 1) (i + 1) k (by omega) (by omega) (by omega)]
    · rw [if_neg (by omega)]
theorem same_eq (l : List Int) (hl : l.length < 4611686018427387904) (k : Nat) (hk : l.length < k) : stockadelaw02_same.f k l l = some true := by
  unfold stockadelaw02_same.f
  rw [if_pos rfl]
  exact same_self l hl l.length 0 k (by omega) (by omega) hk
theorem InsnReads (l0 : List Int) (hm0 : l0.length ≤ maxLen) (y0 : l0.length * 1 ≤ 140737488351232) (hw0 : ∀ x ∈ l0, (Lit.int .u8 x).wf = true) : ∃ k, P.stockadelaw02_InsnReads.f k l0 = some true := by
  have hb : Bytes l0 := fun x hx => wf_u8 (hw0 x hx)
  refine ⟨(l0.length + 4) + 4, ?_⟩
  unfold stockadelaw02_InsnReads.f
  rw [if_pos (by simp; omega)]
  simp only [Option.bind_some, List.nil_append, Decode_eq hb, refDecode_eq hb, if_true, same_eq l0 (by omega) (l0.length + 4 + 4) (by omega), wakes_eq]
  simp
end Go.Proofs.YtkojjjdeacdabaaDoor.Pure
