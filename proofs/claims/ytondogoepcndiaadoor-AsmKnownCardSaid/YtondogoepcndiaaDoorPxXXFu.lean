/- Chapter 03: strconv.FormatUint as the print's other functions (walked in Fu): base 10. -/
import Derived.Test.YtondogoepcndiaaDoorPx0
import Derived.Test.YtondogoepcndiaaDoorFu
namespace Go.Proofs.YtondogoepcndiaaDoor.P
open Go.RowKit Go.Proofs.YtondogoepcndiaaDoorW.PrintWords Go.Proofs.YtondogoepcndiaaDoorW.PrintLast Go.Proofs.YtondogoepcndiaaDoorW.PrintMore
attribute [local go_sem] max2_int min2_int max_two min_two max_three min_three max_four min_four   -- for this text's walks alone
set_option linter.unusedVariables false
set_option linter.unusedSimpArgs false

def strconv_FormatUint_31.f (a0 : Int) (a1 : Int) : Option (ByteArray) := if a1 = 10 ∧ 0 ≤ a0 ∧ a0 < 18446744073709551616 then some ⟨(Lib.decDigits a0.toNat).toArray⟩ else none
theorem strconv_FormatUint_31.calls (a0 : Int) (a1 : Int) (r : ByteArray) (w : World) (hrG3 : Kd.C kGF w (some ⟨3, 0, none⟩) gl3.length gl3) (h : strconv_FormatUint_31.f a0 a1 = some r) :
  Calls Tryd.prog 31 #[.int .u64 a0, .int .i64 a1] w fun e w' => e = .returned (.string r) ∧ Below w.heap.size w w' := by
 unfold strconv_FormatUint_31.f at h
 split at h
 · rename_i hc
   obtain ⟨rfl, h0, h1⟩ := hc
   obtain rfl := Option.some.inj h
   obtain ⟨u, rfl⟩ : ∃ u : Nat, a0 = u := ⟨a0.toNat, by omega⟩
   exact formatUint2_calls u (by omega) w (GF.of hrG3).2.1
 · exact absurd h (by simp)
end Go.Proofs.YtondogoepcndiaaDoor.P
