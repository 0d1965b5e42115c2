/- The law RuleChecks holds for all tables that memory can hold: which rule may not be, and why, and the table's text are the document's. -/
import Derived.Test.YtighficpbplkhaaDoorQk
import Derived.Test.YtighficpbplkhaaDoorQe
import Derived.Test.YtighficpbplkhaaDoorQi
import Derived.Test.YtighficpbplkhaaDoorPx28c
namespace Go.Proofs.YtighficpbplkhaaDoor.Pure
open Go.RowKit Go.Proofs.YtighficpbplkhaaDoorW.PrintWords Go.Proofs.YtighficpbplkhaaDoorW.PrintLast Go.Proofs.YtighficpbplkhaaDoorW.PrintMore Go.Proofs.YtighficpbplkhaaDoor.P
set_option linter.unusedVariables false
set_option linter.unusedSimpArgs false

theorem RuleChecks (l0 : List S46) (h0 : okL l0) : ∃ k, stockadelaw18_RuleChecks.f k l0 = some true := by
  obtain ⟨b, hb, hs⟩ := h0.large
  refine Ev.rounds (g := fun k => stockadelaw18_RuleChecks.f k l0) ?_
  unfold stockadelaw18_RuleChecks.f
  refine Ev.bind_ hb ?_
  cases b with
  | true => simpa using wakes_some
  | false =>
    simp only [Bool.false_eq_true, if_false]
    have sm := hs rfl
    refine Ev.bind_ (table_ev l0 sm) (Ev.bind_ (check_ev _) (Ev.bind_ (refCheck_ev l0) (Ev.bind_ (print_ev _ h0.typed) (Ev.bind_ (refPrint_ev l0 h0.typed) ?_))))
    simp only [if_true]
    refine Ev.bind_ sm.is ?_
    simpa using wakes_some
end Go.Proofs.YtighficpbplkhaaDoor.Pure
