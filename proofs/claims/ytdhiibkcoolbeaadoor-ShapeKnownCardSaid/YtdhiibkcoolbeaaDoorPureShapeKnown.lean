/- Chapter 04: the law ShapeKnown: reckoned. -/
import Derived.Test.YtdhiibkcoolbeaaDoorPx19
namespace Go.Proofs.YtdhiibkcoolbeaaDoor.Pure
open Go.RowKit Go.Proofs.YtdhiibkcoolbeaaDoorW.PrintWords Go.Proofs.YtdhiibkcoolbeaaDoorW.PrintLast Go.Proofs.YtdhiibkcoolbeaaDoorW.PrintMore Go.Proofs.YtdhiibkcoolbeaaDoor.P
set_option linter.unusedVariables false

set_option maxRecDepth 1000000 in
theorem ShapeKnown  : ∃ k, P.stockadelaw04_ShapeKnown.f k  = some true := by
  refine ⟨600, ?_⟩
  decide +kernel
end Go.Proofs.YtdhiibkcoolbeaaDoor.Pure
