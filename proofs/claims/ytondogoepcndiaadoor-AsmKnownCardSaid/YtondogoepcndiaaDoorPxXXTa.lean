/- Chapter 03: the tail of asm.verb: the third table. What the print is told of it (no call of the program's): class -1 where no name is found. -/
import Derived.Test.YtondogoepcndiaaDoorPx0
namespace Go.Proofs.YtondogoepcndiaaDoor.P
open Go.RowKit Go.Proofs.YtondogoepcndiaaDoorW.PrintWords Go.Proofs.YtondogoepcndiaaDoorW.PrintLast Go.Proofs.YtondogoepcndiaaDoorW.PrintMore
attribute [local go_sem] max2_int min2_int max_two min_two max_three min_three max_four min_four   -- for this text's walks alone
set_option linter.unusedVariables false
set_option linter.unusedSimpArgs false

def stringslite_Cut.f (a0 : ByteArray) (a1 : Int) : Option (Int × Int × Int × Bool × Bool) :=
  if a0.toList = [115, 119, 97, 112] then some (2, 0, wrap64 (Int.tdiv a1 8), false, false)
  else if a0.toList = [108, 111, 97, 100] then some (3, 0, wrap64 (Int.tdiv a1 8), false, false)
  else if a0.toList = [115, 116, 111, 114, 101] then some (4, 0, wrap64 (Int.tdiv a1 8), false, false)
  else if a0.toList = [112, 117, 116] then some (5, 0, wrap64 (Int.tdiv a1 8), false, false)
  else some (-1, 0, 0, false, false)
end Go.Proofs.YtondogoepcndiaaDoor.P
