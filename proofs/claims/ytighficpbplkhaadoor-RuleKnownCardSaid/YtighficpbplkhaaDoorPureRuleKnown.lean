/- The law RuleKnown holds: what it prints, reads and judges is closed, so the kernel computes it. -/
import Derived.Test.YtighficpbplkhaaDoorPx36
namespace Go.Proofs.YtighficpbplkhaaDoor.Pure
open Go.RowKit Go.Proofs.YtighficpbplkhaaDoorW.PrintWords Go.Proofs.YtighficpbplkhaaDoorW.PrintLast Go.Proofs.YtighficpbplkhaaDoorW.PrintMore
set_option maxRecDepth 100000
theorem RuleKnown : ∃ k, P.stockadelaw18_RuleKnown.f k = some true := ⟨300, by kernel_rfl⟩
end Go.Proofs.YtighficpbplkhaaDoor.Pure
