/- The law RuleJudges holds for all tables and packets that memory can hold: which rule matches, what it tells, and which of its tests hold is the document's. -/
import Derived.Test.YtighficpbplkhaaDoorQw
import Derived.Test.YtighficpbplkhaaDoorQj
import Derived.Test.YtighficpbplkhaaDoorQi
import Derived.Test.YtighficpbplkhaaDoorPx29
namespace Go.Proofs.YtighficpbplkhaaDoor.Pure
open Go.RowKit Go.Proofs.YtighficpbplkhaaDoorW.PrintWords Go.Proofs.YtighficpbplkhaaDoorW.PrintLast Go.Proofs.YtighficpbplkhaaDoorW.PrintMore Go.Proofs.YtighficpbplkhaaDoor.P
set_option linter.unusedVariables false
set_option linter.unusedSimpArgs false

theorem rj_l2 (l : List S46) (hs : Small l) (p : List Int) (hp : Bytes p) (v n : Int) (port : Int) : ∀ (d i : Nat), i + d = p.length → Ev (fun k => stockadelaw18_RuleJudges.l2 k l (l.map tr) p v n v n i p port) true := by
  intro d
  have := hp.1
  induction d with
  | zero =>
    intro i hi
    refine Ev.step_ (fun K => by rw [stockadelaw18_RuleJudges.l2, if_neg (by omega), if_pos rfl, if_pos rfl]) ?_
    exact Ev.bind_ hs.is (by simpa using wakes_some)
  | succ d ih =>
    intro i hi
    refine Ev.step_ (fun K => ?_) (ih (i + 1) (by omega))
    rw [stockadelaw18_RuleJudges.l2, if_pos (by omega), if_pos (by omega), if_pos (by omega), if_pos rfl, ws (by omega)]
theorem rj_l1 (l : List S46) (hs : Small l) (p : List Int) (hp : Bytes p) (v n : Int) (port : Int) (h0 : 0 ≤ port) (h1 : port < 4294967296) (i : Nat) (hi : i < l.length) (hr : Ev (fun k => stockadelaw18_RuleJudges.l0 k l (l.map tr) p v n v n (wrap64 ((i : Int) + 1)) p port) true) :
    ∀ (d j : Nat), j + d = l[i].f0.length → Ev (fun k => stockadelaw18_RuleJudges.l1 k l (l.map tr) p v n v n i j p port) true := by
  intro d
  have hlen := hs.2 l[i] (List.getElem_mem hi)
  have e1 : rd_T53 (l.map tr) (i : Int) = tr l[i] := by rw [rd53 (by simpa using hi)]; simp
  have e2 : (tr l[i]).f0.length = l[i].f0.length := by simp [tr]
  induction d with
  | zero =>
    intro j hj
    refine Ev.step_ (fun K => ?_) hr
    rw [stockadelaw18_RuleJudges.l1, if_pos (by omega), if_pos (by omega), rd46 hi, if_neg (by omega)]
  | succ d ih =>
    intro j hj
    have hjl : j < l[i].f0.length := by omega
    have e3 : rd_T50 (tr l[i]).f0 (j : Int) = tt l[i].f0[j] := by rw [rd50 (by omega)]; simp [tr]
    refine Ev.step_ (g := fun k => (rule_Holds.f k (tt l[i].f0[j]).f0 (tt l[i].f0[j]).f1 (tt l[i].f0[j]).f2 (tt l[i].f0[j]).f3 (tt l[i].f0[j]).f4 (tt l[i].f0[j]).f5 (tt l[i].f0[j]).f6 p port).bind fun a => (stockaderef18_Holds.f k (tt l[i].f0[j]).f0 (tt l[i].f0[j]).f1 (tt l[i].f0[j]).f2 (tt l[i].f0[j]).f3 (tt l[i].f0[j]).f4 (tt l[i].f0[j]).f5 (tt l[i].f0[j]).f6 p port).bind fun b => if (a != b) = true then some false else stockadelaw18_RuleJudges.l1 k l (l.map tr) p v n v n i ((j + 1 : Nat) : Int) p port) (fun K => ?_) (Ev.bind_ (holds_ev _ p port hp h0 h1) (Ev.bind_ (refHolds_ev _ p port hp h0 h1) (by simpa using ih (j + 1) (by omega))))
    rw [stockadelaw18_RuleJudges.l1, if_pos (by omega), if_pos (by omega), rd46 hi, if_pos (by omega), if_pos (by rw [List.length_map]; omega), if_pos (by omega), e1, e2, if_pos (by omega), e3, rd55 hjl, ws (by omega)]
    rfl
theorem rj_l0 (l : List S46) (hs : Small l) (p : List Int) (hp : Bytes p) (v n : Int) (port : Int) (h0 : 0 ≤ port) (h1 : port < 4294967296) : ∀ (d i : Nat), i + d = l.length → Ev (fun k => stockadelaw18_RuleJudges.l0 k l (l.map tr) p v n v n i p port) true := by
  intro d
  have := hs.1
  induction d with
  | zero =>
    intro i hi
    refine Ev.step_ (fun K => by rw [stockadelaw18_RuleJudges.l0, if_neg (by omega)]; rfl) (rj_l2 l hs p hp v n port p.length 0 (by omega))
  | succ d ih =>
    intro i hi
    have hil : i < l.length := by omega
    refine Ev.step_ (fun K => by rw [stockadelaw18_RuleJudges.l0, if_pos (by omega)]; rfl) (rj_l1 l hs p hp v n port h0 h1 i hil ?_ l[i].f0.length 0 (by omega))
    rw [ws (by omega)]
    exact ih (i + 1) (by omega)
theorem RuleJudges (l0 : List S46) (l1_0 : List Int) (a1_1 : Int) (h0 : okL l0) (hp : Bytes l1_0) (w1 : (Lit.int .u32 a1_1).wf = true) : ∃ k, stockadelaw18_RuleJudges.f k l0 l1_0 a1_1 = some true := by
  have hw : 0 ≤ a1_1 ∧ a1_1 < 4294967296 := by
    simp [Lit.wf, IntKind.min, IntKind.max, IntKind.signed, IntKind.bits] at w1
    omega
  obtain ⟨b, hb, hs⟩ := h0.large
  refine Ev.rounds (g := fun k => stockadelaw18_RuleJudges.f k l0 l1_0 a1_1) ?_
  unfold stockadelaw18_RuleJudges.f
  refine Ev.bind_ hb ?_
  cases b with
  | true => simpa using wakes_some
  | false =>
    simp only [Bool.false_eq_true, if_false]
    have sm := hs rfl
    refine Ev.bind_ (table_ev l0 sm) ?_
    have hpl := hp.1
    refine Ev.eqn (fun K => by rw [if_pos (by simp only [List.length_nil]; omega)]) ?_
    simp only [List.nil_append, Option.bind_some]
    refine Ev.bind_ (judge_ev _ h0.fits l1_0 a1_1 hp hw.1 hw.2) (Ev.bind_ (refJudge_ev l0 (by have := sm.1; omega) (fun z hz => by have := sm.2 z hz; omega) l1_0 a1_1 hp hw.1 hw.2) ?_)
    exact rj_l0 l0 sm l1_0 hp _ _ a1_1 hw.1 hw.2 l0.length 0 (by omega)
end Go.Proofs.YtighficpbplkhaaDoor.Pure
