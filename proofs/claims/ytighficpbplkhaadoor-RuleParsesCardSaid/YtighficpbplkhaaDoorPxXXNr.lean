/- Chapter 18: a new reader of the reference (what the print was told is a call; the walk makes it in its place). -/
import Derived.Test.YtighficpbplkhaaDoorPx0
namespace Go.Proofs.YtighficpbplkhaaDoor.P
open Go.RowKit Go.Proofs.YtighficpbplkhaaDoorW.PrintWords Go.Proofs.YtighficpbplkhaaDoorW.PrintLast Go.Proofs.YtighficpbplkhaaDoorW.PrintMore
attribute [local go_sem] max2_int min2_int max_two min_two max_three min_three max_four min_four   -- for this text's walks alone
set_option linter.unusedVariables false
set_option linter.unusedSimpArgs false

def strconv_baseError.f (a0 : ByteArray) : Option (ByteArray × Int × Bool) := some (a0, 0, false)
end Go.Proofs.YtighficpbplkhaaDoor.P
