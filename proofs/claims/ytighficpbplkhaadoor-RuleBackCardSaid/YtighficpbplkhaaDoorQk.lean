/- Chapter 18, plain: the rows that each law asks first. No conditions but the ones each theorem names. -/
import Derived.Test.YtighficpbplkhaaDoorQb
import Derived.Test.YtighficpbplkhaaDoorPx21
namespace Go.Proofs.YtighficpbplkhaaDoor.Pure
open Go.RowKit Go.Proofs.YtighficpbplkhaaDoorW.PrintWords Go.Proofs.YtighficpbplkhaaDoorW.PrintLast Go.Proofs.YtighficpbplkhaaDoorW.PrintMore Go.Proofs.YtighficpbplkhaaDoor.P
set_option linter.unusedVariables false
set_option linter.unusedSimpArgs false
set_option maxRecDepth 100000

theorem wakes_300 : stockadelaw18_wakes.f 300 = some true := by kernel_rfl
theorem wakes_ev : Ev (fun k => stockadelaw18_wakes.f k) true := Ev.of (fun k => stockadelaw18_wakes.mono k) wakes_300
theorem wakes_some : Ev (fun k => (stockadelaw18_wakes.f k).bind fun t => some t) true := Ev.bind_ wakes_ev Ev.pure
theorem okL.fits {l : List S46} (h : okL l) : Fits (l.map tr) := ⟨by have := h.1; rw [List.length_map]; omega, fun z hz => by
  obtain ⟨y, hy, rfl⟩ := List.mem_map.1 hz
  have := (h.2 y hy).1
  simp only [tr, List.length_map]; omega⟩
theorem okL.large {l : List S46} (h : okL l) : ∃ b, Ev (fun k => stockadelaw18_large.f k l) b ∧ (b = false → Small l) := large_ev l h.1 (fun z hz => (h.2 z hz).1)
end Go.Proofs.YtighficpbplkhaaDoor.Pure
