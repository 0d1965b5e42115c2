/- Chapter 03: strconv.Itoa as the print's other functions (the shelf's contract). -/
import Derived.Test.YtondogoepcndiaaDoorPx0
import Derived.Test.YtondogoepcndiaaDoorSh
import Derived.Lib.AppendIntMem
namespace Go.Proofs.YtondogoepcndiaaDoor.P
open Go.RowKit Go.Proofs.YtondogoepcndiaaDoorW.PrintWords Go.Proofs.YtondogoepcndiaaDoorW.PrintLast Go.Proofs.YtondogoepcndiaaDoorW.PrintMore
attribute [local go_sem] max2_int min2_int max_two min_two max_three min_three max_four min_four   -- for this text's walks alone
set_option linter.unusedVariables false
set_option linter.unusedSimpArgs false

def strconv_Itoa_29.f (a0 : Int) : Option (ByteArray) := if -9223372036854775808 ≤ a0 ∧ a0 ≤ 9223372036854775807 then some ⟨(Lib.itoa a0).toArray⟩ else none
theorem strconv_Itoa_29.calls (a0 : Int) (r : ByteArray) (w : World) (hrG3 : Kd.C kGF w (some ⟨3, 0, none⟩) gl3.length gl3) (h : strconv_Itoa_29.f a0 = some r) :
  Calls Tryd.prog 29 #[.int .i64 a0] w fun e w' => e = .returned (.string r) ∧ Below w.heap.size w w' := by
 unfold strconv_Itoa_29.f at h
 split at h
 · rename_i hc
   obtain rfl := Option.some.inj h
   refine (Tryd.strconv_Itoa a0 hc.1 hc.2 w (GF.of hrG3).2.1).mono ?_
   rintro e w' ⟨rfl, k, os, rfl⟩
   exact ⟨rfl, Lib.below_grow _ _ (Nat.le_refl _) _ _⟩
 · exact absurd h (by simp)
end Go.Proofs.YtondogoepcndiaaDoor.P
