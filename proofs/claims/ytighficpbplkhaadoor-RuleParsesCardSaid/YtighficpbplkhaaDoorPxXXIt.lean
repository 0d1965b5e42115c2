/- Chapter 18: strconv.Itoa as the print's other functions (the shelf's contract). -/
import Derived.Test.YtighficpbplkhaaDoorPx0
import Derived.Test.YtighficpbplkhaaDoorSh
import Derived.Lib.AppendIntMem
namespace Go.Proofs.YtighficpbplkhaaDoor.P
open Go.RowKit Go.Proofs.YtighficpbplkhaaDoorW.PrintWords Go.Proofs.YtighficpbplkhaaDoorW.PrintLast Go.Proofs.YtighficpbplkhaaDoorW.PrintMore
attribute [local go_sem] max2_int min2_int max_two min_two max_three min_three max_four min_four   -- for this text's walks alone
set_option linter.unusedVariables false
set_option linter.unusedSimpArgs false

def strconv_Itoa_63.f (a0 : Int) : Option (ByteArray) := if -9223372036854775808 ≤ a0 ∧ a0 ≤ 9223372036854775807 then some ⟨(Lib.itoa a0).toArray⟩ else none
theorem strconv_Itoa_63.calls (a0 : Int) (r : ByteArray) (w : World) (hrG0 : Kd.C kGF w (some ⟨0, 0, none⟩) gl0.length gl0) (h : strconv_Itoa_63.f a0 = some r) :
  Calls Tryd.prog 63 #[.int .i64 a0] w fun e w' => e = .returned (.string r) ∧ Below w.heap.size w w' := by
 unfold strconv_Itoa_63.f at h
 split at h
 · rename_i hc
   obtain rfl := Option.some.inj h
   refine (Tryd.strconv_Itoa a0 hc.1 hc.2 w (GF.of hrG0).2.1).mono ?_
   rintro e w' ⟨rfl, k, os, rfl⟩
   exact ⟨rfl, Lib.below_grow _ _ (Nat.le_refl _) _ _⟩
 · exact absurd h (by simp)
end Go.Proofs.YtighficpbplkhaaDoor.P
