/- Chapter 04: awake answers true (reckoned). -/
import Derived.Test.YtdhiibkcoolbeaaDoorPx16
namespace Go.Proofs.YtdhiibkcoolbeaaDoor.Pure
open Go.RowKit Go.Proofs.YtdhiibkcoolbeaaDoorW.PrintWords Go.Proofs.YtdhiibkcoolbeaaDoorW.PrintLast Go.Proofs.YtdhiibkcoolbeaaDoorW.PrintMore Go.Proofs.YtdhiibkcoolbeaaDoor.P
set_option linter.unusedVariables false

set_option maxRecDepth 100000 in
theorem awake_eq : stockadelaw04_awake.f = some true := by decide +kernel
end Go.Proofs.YtdhiibkcoolbeaaDoor.Pure
