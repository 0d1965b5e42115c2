/- The law RuleFirst holds for all tables and packets that memory can hold: of two tables, one behind the other, what the first one tells, if a rule of it matches, else what the second one tells. -/
import Derived.Test.YtighficpbplkhaaDoorQw
import Derived.Test.YtighficpbplkhaaDoorPx33
namespace Go.Proofs.YtighficpbplkhaaDoor.Pure
open Go.RowKit Go.Proofs.YtighficpbplkhaaDoorW.PrintWords Go.Proofs.YtighficpbplkhaaDoorW.PrintLast Go.Proofs.YtighficpbplkhaaDoorW.PrintMore Go.Proofs.YtighficpbplkhaaDoor.P
set_option linter.unusedVariables false
set_option linter.unusedSimpArgs false

theorem first_main (a b : List S46) (ha : Small a) (hb : Small b) (p : List Int) (port : Int) (hp : Bytes p) (h0 : 0 ≤ port) (h1 : port < 4294967296) (fa : Fits (a.map tr)) (fb : Fits (b.map tr)) :
    Ev (fun k => stockadelaw18_RuleFirst.j0 k a b false p port) true := by
  refine Ev.step_ (fun K => by rw [stockadelaw18_RuleFirst.j0, if_neg (by simp)]) ?_
  have la := ha.1
  have lb := hb.1
  refine Ev.bind_ (table_ev a ha) (Ev.bind_ (judge_ev _ fa p port hp h0 h1) (Ev.bind_ (table_ev b hb) (Ev.bind_ (judge_ev _ fb p port hp h0 h1) (Ev.bind_ (table_ev a ha) (Ev.bind_ (table_ev b hb) ?_)))))
  refine Ev.eqn (fun K => by rw [if_pos (by rw [List.length_map, List.length_map]; omega)]) ?_
  have fab : Fits (a.map tr ++ b.map tr) := ⟨by rw [List.length_append, List.length_map, List.length_map]; omega, fun z hz => (List.mem_append.1 hz).elim (fa.2 z) (fb.2 z)⟩
  refine Ev.bind_ (judge_ev _ fab p port hp h0 h1) ?_
  rw [judge_append p port (b.map tr) (a.map tr) 0 (Int.le_refl 0)]
  rcases judge_range p port (a.map tr) 0 (Int.le_refl 0) with e | ⟨j, hj, e⟩
  · rw [e]
    have hs := judge_shift p port (b.map tr) 0 ((a.map tr).length : Int) (Int.le_refl 0) (by omega)
    rcases judge_range p port (b.map tr) 0 (Int.le_refl 0) with e2 | ⟨j, hj, e2⟩
    · rw [e2] at hs
      rw [e2, hs]
      simpa using wakes_some
    · rw [e2] at hs
      rw [e2, hs]
      have ej : wrap64 ((a.length : Int) + (0 + (j : Int))) = 0 + (j : Int) + ((a.map tr).length : Int) := by
        rw [List.length_map] at hj ⊢
        unfold wrap64; omega
      have c1 : (0 : Int) + (j : Int) ≥ 0 := by omega
      have c2 : (0 : Int) ≤ 0 + (j : Int) := c1
      simp only [show ¬ ((-1 : Int) ≥ 0) by decide, show ¬ ((0 : Int) ≤ -1) by decide, if_false, ej, if_pos c1, if_pos c2, if_true]
      exact wakes_some
  · rw [e]
    have hja : j < a.length := by simpa using hj
    have c1 : (0 : Int) + (j : Int) ≥ 0 := by omega
    have c2 : (0 : Int) ≤ 0 + (j : Int) := c1
    have c3 : (0 : Int) + (j : Int) < (a.length : Int) := by omega
    have e3 : (rd_T46 a (0 + (j : Int))).f1 = (a.map tr)[j].f1 := by
      rw [Int.zero_add, rd46 hja, List.getElem_map]; rfl
    simp only [if_pos c1, if_pos c2, if_pos c3, if_true, e3]
    exact wakes_some
theorem RuleFirst (l0 l1 : List S46) (l2_0 : List Int) (a2_1 : Int) (h0 : okL l0) (h1 : okL l1) (hp : Bytes l2_0) (w2 : (Lit.int .u32 a2_1).wf = true) : ∃ k, stockadelaw18_RuleFirst.f k l0 l1 l2_0 a2_1 = some true := by
  have hw : 0 ≤ a2_1 ∧ a2_1 < 4294967296 := by
    simp [Lit.wf, IntKind.min, IntKind.max, IntKind.signed, IntKind.bits] at w2
    omega
  obtain ⟨b, hb, hs⟩ := h0.large
  obtain ⟨b2, hb2, hs2⟩ := h1.large
  refine Ev.rounds (g := fun k => stockadelaw18_RuleFirst.f k l0 l1 l2_0 a2_1) ?_
  unfold stockadelaw18_RuleFirst.f
  refine Ev.bind_ hb ?_
  have wk : Ev (fun k => stockadelaw18_RuleFirst.j0 k l0 l1 true l2_0 a2_1) true := Ev.step_ (fun K => by rw [stockadelaw18_RuleFirst.j0, if_pos rfl]) wakes_some
  cases b with
  | true => simpa using wk
  | false =>
    simp only [Bool.false_eq_true, if_false]
    refine Ev.bind_ hb2 ?_
    cases b2 with
    | true => exact wk
    | false => exact first_main l0 l1 (hs rfl) (hs2 rfl) l2_0 a2_1 hp hw.1 hw.2 h0.fits h1.fits
end Go.Proofs.YtighficpbplkhaaDoor.Pure
