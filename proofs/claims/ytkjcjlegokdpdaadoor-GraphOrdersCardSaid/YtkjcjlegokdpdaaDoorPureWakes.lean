/- Chapter 05: some of the chapter's rows. -/
import Derived.Test.YtkjcjlegokdpdaaDoorPx10
namespace Go.Proofs.YtkjcjlegokdpdaaDoor.Pure
open Go.RowKit Go.Proofs.YtkjcjlegokdpdaaDoorW.PrintWords Go.Proofs.YtkjcjlegokdpdaaDoorW.PrintLast Go.Proofs.YtkjcjlegokdpdaaDoorW.PrintMore Go.Proofs.YtkjcjlegokdpdaaDoor.P
theorem wakes_eq : stockadelaw05_wakes.f 40 = some true := by decide +kernel
end Go.Proofs.YtkjcjlegokdpdaaDoor.Pure
