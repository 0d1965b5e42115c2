/- Chapter 04: twin hands back the same image. -/
import Derived.Test.YtdhiibkcoolbeaaDoorPx4
namespace Go.Proofs.YtdhiibkcoolbeaaDoor.Pure
open Go.RowKit Go.Proofs.YtdhiibkcoolbeaaDoorW.PrintWords Go.Proofs.YtdhiibkcoolbeaaDoorW.PrintLast Go.Proofs.YtdhiibkcoolbeaaDoorW.PrintMore Go.Proofs.YtdhiibkcoolbeaaDoor.P
set_option linter.unusedVariables false
set_option linter.unusedSimpArgs false

theorem twin_eq {M : List S52} {C : List S40} (h1 : M.length * 32 ≤ 140737488351232) (h2 : C.length * 12 ≤ 140737488351232) : stockadelaw04_twin.f M C = some (M, C) := by
  unfold stockadelaw04_twin.f
  rw [if_pos (by simp; omega), Option.bind_some, Option.bind_some, if_pos (by simp; omega), Option.bind_some, if_pos (by omega), if_pos (by simp; omega), if_pos (by simp; omega), Option.bind_some, Option.bind_some, if_pos (by simp; omega), Option.bind_some, if_pos (by omega), if_pos (by simp; omega)]
  simp
end Go.Proofs.YtdhiibkcoolbeaaDoor.Pure
