/- Chapter 02: the law InsnKnown: reckoned. -/
import Derived.Test.YtkojjjdeacdabaaDoorPx22
namespace Go.Proofs.YtkojjjdeacdabaaDoor.Pure
open Go.RowKit Go.Proofs.YtkojjjdeacdabaaDoorW.PrintWords Go.Proofs.YtkojjjdeacdabaaDoorW.PrintLast Go.Proofs.YtkojjjdeacdabaaDoorW.PrintMore Go.Proofs.YtkojjjdeacdabaaDoor.P
set_option linter.unusedVariables false
set_option linter.unusedSimpArgs false

set_option maxRecDepth 100000 in
theorem InsnKnown  : ∃ k, P.stockadelaw02_InsnKnown.f k  = some true := by
  refine ⟨400, ?_⟩
  decide +kernel
end Go.Proofs.YtkojjjdeacdabaaDoor.Pure
