/- The law RuleNear holds for all tables and packets that memory can hold: of a test and it with Not just one holds, if it may be; bytes far behind change nothing. -/
import Derived.Test.YtighficpbplkhaaDoorQw
import Derived.Test.YtighficpbplkhaaDoorPx35
namespace Go.Proofs.YtighficpbplkhaaDoor.Pure
open Go.RowKit Go.Proofs.YtighficpbplkhaaDoorW.PrintWords Go.Proofs.YtighficpbplkhaaDoorW.PrintLast Go.Proofs.YtighficpbplkhaaDoorW.PrintMore Go.Proofs.YtighficpbplkhaaDoor.P
set_option linter.unusedVariables false
set_option linter.unusedSimpArgs false

theorem near_end (l : List S53) (fl : Fits l) (p : List Int) (hp : Bytes p) (port : Int) (h0 : 0 ≤ port) (h1 : port < 4294967296) (at_ v : Int) (ha : 0 ≤ at_ ∧ at_ ≤ 65535) (hv : 0 ≤ v ∧ v ≤ 255) (i : Int) (hi : ¬ i < (l.length : Int)) :
    Ev (fun k => stockadelaw18_RuleNear.l0 k at_ v l i p port) true := by
  have hpl := hp.1
  by_cases c : (p.length : Int) ≤ 337
  · exact Ev.step_ (fun K => by rw [stockadelaw18_RuleNear.l0, if_neg hi, if_pos c]) wakes_some
  · have e0 : wrap64 at_ = at_ := w64 (by omega) (by omega)
    have e1 : wrap64 ((p.length : Int) - 337) = (p.length : Int) - 337 := w64 (by omega) (by omega)
    have e2 : Int.tmod at_ ((p.length : Int) - 337) = at_ % ((p.length : Int) - 337) := Int.tmod_eq_emod_of_nonneg ha.1
    have r0 : 0 ≤ at_ % ((p.length : Int) - 337) := Int.emod_nonneg _ (by omega)
    have r1 : at_ % ((p.length : Int) - 337) < (p.length : Int) - 337 := Int.emod_lt_of_pos _ (by omega)
    obtain ⟨j, hj⟩ : ∃ j : Nat, 337 + at_ % ((p.length : Int) - 337) = (j : Int) := ⟨(337 + at_ % ((p.length : Int) - 337)).toNat, by omega⟩
    have e3 : wrap64 (337 + at_ % ((p.length : Int) - 337)) = (j : Int) := by rw [hj]; exact w64 (by omega) (by omega)
    have hp' : Bytes (p.set j v) := ⟨by rw [List.length_set]; exact hpl, fun b hb => by
      rcases List.mem_or_eq_of_mem_set hb with h | rfl
      · exact hp.2 b h
      · exact hv⟩
    refine Ev.step_ (g := fun k => (rule_Judge.f k l p port).bind fun a => (rule_Judge.f k l (p.set j v) port).bind fun b => if a.1 = b.1 then if a.2 = b.2 then (stockadelaw18_wakes.f k).bind fun t => some t else some false else some false) (fun K => ?_) (Ev.bind_ (judge_ev l fl p port hp h0 h1) (Ev.bind_ (judge_ev l fl _ port hp' h0 h1) ?_))
    · rw [stockadelaw18_RuleNear.l0, if_neg hi, if_neg c, if_pos (by simp only [List.length_nil]; omega)]
      simp only [List.nil_append, Option.bind_some]
      rw [e0, e1, if_neg (by omega), e2, e3, if_pos (by omega), if_pos (by omega)]
      rfl
    · rw [judge_far p port v hp j (by omega)]
      simpa using wakes_some
theorem near_l1 (l : List S53) (fl : Fits l) (p : List Int) (hp : Bytes p) (port : Int) (h0 : 0 ≤ port) (h1 : port < 4294967296) (at_ v : Int) (i : Nat) (hi : i < l.length)
    (hr : Ev (fun k => stockadelaw18_RuleNear.l0 k at_ v l (wrap64 ((i : Int) + 1)) p port) true) :
    ∀ (d j : Nat), j + d = l[i].f0.length → Ev (fun k => stockadelaw18_RuleNear.l1 k at_ v l i j p port) true := by
  intro d
  have hlen := fl.2 l[i] (List.getElem_mem hi)
  induction d with
  | zero =>
    intro j hj
    refine Ev.step_ (fun K => ?_) hr
    rw [stockadelaw18_RuleNear.l1, if_pos (by omega), if_pos (by omega), rd53 hi, if_neg (by omega)]
  | succ d ih =>
    intro j hj
    have hjl : j < l[i].f0.length := by omega
    have nx := ih (j + 1) (by omega)
    generalize ht : l[i].f0[j] = t at *
    refine Ev.step_ (g := fun k => (rule_Holds.f k t.f0 t.f1 t.f2 t.f3 t.f4 t.f5 t.f6 p port).bind fun a => (rule_Holds.f k (flip t).f0 (flip t).f1 (flip t).f2 (flip t).f3 (flip t).f4 (flip t).f5 (flip t).f6 p port).bind fun b => (rule_Check.f k [⟨[⟨t.f0, t.f1, t.f2, t.f3, t.f4, t.f5, t.f6⟩], 0⟩]).bind fun c =>
      if a = true then if b = true then some false else if (true != (c.2 == 0)) = true then some false else stockadelaw18_RuleNear.l1 k at_ v l i ((j + 1 : Nat) : Int) p port
      else if (b != (c.2 == 0)) = true then some false else stockadelaw18_RuleNear.l1 k at_ v l i ((j + 1 : Nat) : Int) p port) (fun K => ?_) (Ev.bind_ (holds_ev t p port hp h0 h1) (Ev.bind_ (holds_ev (flip t) p port hp h0 h1) (Ev.bind_ (check_ev _) ?_)))
    · rw [stockadelaw18_RuleNear.l1, if_pos (by omega), if_pos (by omega), rd53 hi, if_pos (by omega), if_pos (by omega), rd50 hjl, ht, ws (by omega)]
      rfl
    · have e : checkV [⟨[⟨t.f0, t.f1, t.f2, t.f3, t.f4, t.f5, t.f6⟩], 0⟩] = if mayB t = true then (0, 0) else (0, 1) := by
        have : (⟨t.f0, t.f1, t.f2, t.f3, t.f4, t.f5, t.f6⟩ : S50) = t := rfl
        rw [this]
        cases hm : mayB t <;> simp [checkV, chkV, hm]
      rw [e, holds_flip]
      have hh : mayB t = false → holdsV t p port = false := fun h => by unfold holdsV; rw [h]; rfl
      cases hm : mayB t with
      | false => rw [hh hm]; simpa using nx
      | true => cases hc : holdsV t p port <;> simpa using nx
theorem near_l0 (l : List S53) (fl : Fits l) (p : List Int) (hp : Bytes p) (port : Int) (h0 : 0 ≤ port) (h1 : port < 4294967296) (at_ v : Int) (ha : 0 ≤ at_ ∧ at_ ≤ 65535) (hv : 0 ≤ v ∧ v ≤ 255) :
    ∀ (d i : Nat), i + d = l.length → Ev (fun k => stockadelaw18_RuleNear.l0 k at_ v l i p port) true := by
  intro d
  have := fl.1
  induction d with
  | zero => intro i hi; exact near_end l fl p hp port h0 h1 at_ v ha hv i (by omega)
  | succ d ih =>
    intro i hi
    have hil : i < l.length := by omega
    refine Ev.step_ (fun K => by rw [stockadelaw18_RuleNear.l0, if_pos (by omega)]; rfl) (near_l1 l fl p hp port h0 h1 at_ v i hil ?_ l[i].f0.length 0 (by omega))
    rw [ws (by omega)]
    exact ih (i + 1) (by omega)
theorem RuleNear (l0 : List S46) (l1_0 : List Int) (a1_1 : Int) (a2 : Int) (a3 : Int) (h0 : okL l0) (hp : Bytes l1_0) (w1 : (Lit.int .u32 a1_1).wf = true) (w2 : (Lit.int .u16 a2).wf = true) (w3 : (Lit.int .u8 a3).wf = true) : ∃ k, stockadelaw18_RuleNear.f k l0 l1_0 a1_1 a2 a3 = some true := by
  have hw : 0 ≤ a1_1 ∧ a1_1 < 4294967296 := by
    simp [Lit.wf, IntKind.min, IntKind.max, IntKind.signed, IntKind.bits] at w1
    omega
  have hw2 : 0 ≤ a2 ∧ a2 ≤ 65535 := by
    simp [Lit.wf, IntKind.min, IntKind.max, IntKind.signed, IntKind.bits] at w2
    omega
  have hw3 : 0 ≤ a3 ∧ a3 ≤ 255 := by
    simp [Lit.wf, IntKind.min, IntKind.max, IntKind.signed, IntKind.bits] at w3
    omega
  obtain ⟨b, hb, hs⟩ := h0.large
  refine Ev.rounds (g := fun k => stockadelaw18_RuleNear.f k l0 l1_0 a1_1 a2 a3) ?_
  unfold stockadelaw18_RuleNear.f
  refine Ev.bind_ hb ?_
  have wk : Ev (fun k => stockadelaw18_RuleNear.j0 k l0 a2 a3 true l1_0 a1_1) true := Ev.step_ (fun K => by rw [stockadelaw18_RuleNear.j0, if_pos rfl]) wakes_some
  cases b with
  | true => simpa using wk
  | false =>
    simp only [Bool.false_eq_true, if_false]
    by_cases c : (l1_0.length : Int) > 3000
    · rw [decide_eq_true c]; exact wk
    · rw [decide_eq_false c]
      refine Ev.step_ (fun K => by rw [stockadelaw18_RuleNear.j0, if_neg (by simp)]) (Ev.bind_ (table_ev l0 (hs rfl)) ?_)
      exact near_l0 (l0.map tr) h0.fits l1_0 hp a1_1 hw.1 hw.2 a2 a3 hw2 hw3 _ 0 (Nat.zero_add _)
end Go.Proofs.YtighficpbplkhaaDoor.Pure
