/- Chapter 05: the chapter's rows. -/
import Derived.Test.YtkjcjlegokdpdaaDoorPx30
namespace Go.Proofs.YtkjcjlegokdpdaaDoor.Pure
open Go.RowKit Go.Proofs.YtkjcjlegokdpdaaDoorW.PrintWords Go.Proofs.YtkjcjlegokdpdaaDoorW.PrintLast Go.Proofs.YtkjcjlegokdpdaaDoorW.PrintMore Go.Proofs.YtkjcjlegokdpdaaDoor.P
theorem GraphKnown : ∃ k, P.stockadelaw05_GraphKnown.f k = some true := ⟨60, by decide +kernel⟩
end Go.Proofs.YtkjcjlegokdpdaaDoor.Pure
