/- The law RuleBack holds for all tables and texts that memory can hold: tables are told and read as they were; texts are read and told as they were. -/
import Derived.Test.YtighficpbplkhaaDoorQk
import Derived.Test.YtighficpbplkhaaDoorQi
import Derived.Test.YtighficpbplkhaaDoorQp
import Derived.Test.YtighficpbplkhaaDoorPx34
namespace Go.Proofs.YtighficpbplkhaaDoor.Pure
open Go.RowKit Go.Proofs.YtighficpbplkhaaDoorW.PrintWords Go.Proofs.YtighficpbplkhaaDoorW.PrintLast Go.Proofs.YtighficpbplkhaaDoorW.PrintMore Go.Proofs.YtighficpbplkhaaDoor.P
set_option linter.unusedVariables false
set_option linter.unusedSimpArgs false

theorem back_j1 (s : List UInt8) (h : s.length ≤ 6000) : Ev (fun k => stockadelaw18_RuleBack.j1 k ⟨s.toArray⟩) true := by
  refine Ev.step_ (fun K => by rw [stockadelaw18_RuleBack.j1]) (Ev.bind_ (parse_ev s (by omega)) ?_)
  by_cases c : (parseV s).2.2 = 0
  · obtain ⟨l, e, hv, hs, hl⟩ := parseV_ok c
    rw [e]
    have hc : checkV l = (0, 0) := ok_check hl (fun r hr => ⟨(hv r hr).1, fun t ht => ((hv r hr).2.1 t ht).1⟩)
    have hp := print_ev l (fun r hr => ⟨⟨(hv r hr).2.2.1, (hv r hr).2.2.2⟩, fun t ht => ((hv r hr).2.1 t ht).2⟩)
    unfold printV at hp
    rw [hc, if_pos rfl] at hp
    refine Ev.eqn (fun K => if_pos rfl) (Ev.bind_ (check_ev l) (Ev.bind_ hp ?_))
    rw [hc, hs]
    simpa using wakes_some
  · obtain ⟨h1, h2⟩ := parseV_bad c
    refine Ev.eqn (fun K => if_neg c) ?_
    rw [h1]
    refine Ev.eqn (fun K => if_pos rfl) (Ev.eqn (fun K => if_pos h2) wakes_some)
theorem RuleBack (l0 : List S46) (a1 : ByteArray) (h0 : okL l0) (w1 : a1.size ≤ 140737488351232) : ∃ k, stockadelaw18_RuleBack.f k l0 a1 = some true := by
  obtain ⟨b, hb, hs⟩ := h0.large
  refine Ev.rounds (g := fun k => stockadelaw18_RuleBack.f k l0 a1) ?_
  unfold stockadelaw18_RuleBack.f
  refine Ev.bind_ hb ?_
  have wk : Ev (fun k => stockadelaw18_RuleBack.j0 k l0 a1 true) true := Ev.step_ (fun K => by rw [stockadelaw18_RuleBack.j0, if_pos rfl]) wakes_some
  cases b with
  | true => simpa using wk
  | false =>
    simp only [Bool.false_eq_true, if_false]
    by_cases c : (a1.size : Int) > 6000
    · rw [decide_eq_true c]; exact wk
    · rw [decide_eq_false c]
      have hj := back_j1 a1.data.toList (by rw [Array.length_toList]; have : a1.size = a1.data.size := rfl; omega)
      rw [← eq_mk] at hj
      refine Ev.step_ (fun K => by rw [stockadelaw18_RuleBack.j0, if_neg (by simp)]) (Ev.bind_ (table_ev l0 (hs rfl)) (Ev.bind_ (print_ev _ h0.typed) ?_))
      unfold printV
      by_cases hc : (checkV (l0.map tr)).2 = 0
      · obtain ⟨h32, hv⟩ := valid_of h0.typed hc
        rw [if_pos hc]
        have hpl := printL_len _ hv
        refine Ev.eqn (fun K => if_pos rfl) (Ev.bind_ (parse_ev (printL (l0.map tr)) (by omega)) ?_)
        have e : parseV (printL (l0.map tr)) = (l0.map tr, 0, 0) := by
          unfold parseV
          rw [parse_print _ _ _ _ hv (by omega) (by omega)]; rfl
        rw [e]
        refine Ev.eqn (fun K => if_pos rfl) (Ev.eqn (fun K => if_pos rfl) (Ev.bind_ (hs rfl).is ?_))
        exact Ev.eqn (fun K => if_pos rfl) hj
      · rw [if_neg hc]
        refine Ev.eqn (fun K => if_neg hc) (Ev.eqn (fun K => if_pos (by rw [show (⟨#[]⟩ : ByteArray) = ⟨([] : List UInt8).toArray⟩ from rfl, mk_list])) hj)
end Go.Proofs.YtighficpbplkhaaDoor.Pure
