/- Chapter 18, plain: tables that are alike. No conditions but the ones each theorem names. -/
import Derived.Test.YtighficpbplkhaaDoorQb
import Derived.Test.YtighficpbplkhaaDoorPx27
namespace Go.Proofs.YtighficpbplkhaaDoor.Pure
open Go.RowKit Go.Proofs.YtighficpbplkhaaDoorW.PrintWords Go.Proofs.YtighficpbplkhaaDoorW.PrintLast Go.Proofs.YtighficpbplkhaaDoorW.PrintMore Go.Proofs.YtighficpbplkhaaDoor.P
set_option linter.unusedVariables false
set_option linter.unusedSimpArgs false

/-! alike -/
theorem is_l1 (l : List S46) (i : Nat) (hi : i < l.length) (hil : i < 4611686018427387904) (hlen : l[i].f0.length < 4611686018427387904) (hr : Ev (fun k => stockadelaw18_Is.l0 k (l.map tr) l (wrap64 ((i : Int) + 1))) true) :
    ∀ (n j : Nat), j + n = l[i].f0.length → Ev (fun k => stockadelaw18_Is.l1 k (l.map tr) l i j) true := by
  intro n
  have e1 : rd_T53 (l.map tr) (i : Int) = tr l[i] := by rw [rd53 (by simpa using hi)]; simp
  have e2 : (tr l[i]).f0.length = l[i].f0.length := by simp [tr]
  induction n with
  | zero =>
    intro j hj
    refine Ev.step_ (fun K => ?_) hr
    rw [stockadelaw18_Is.l1, if_pos (by omega), if_pos (by rw [List.length_map]; omega), e1, e2, if_neg (by omega)]
  | succ n ih =>
    intro j hj
    have hjl : j < l[i].f0.length := by omega
    refine Ev.step_ (fun K => ?_) (ih (j + 1) (by omega))
    have e3 : rd_T50 (tr l[i]).f0 (j : Int) = tt l[i].f0[j] := by rw [rd50 (by omega)]; simp [tr]
    rw [stockadelaw18_Is.l1, if_pos (by omega), if_pos (by rw [List.length_map]; omega), e1, e2, if_pos (by omega), if_pos (by omega), if_pos (by omega), rd46 hi, if_pos (by omega), rd55 hjl, e3, ws (by omega)]
    simp [stockadelaw18_Test.f, tt]
theorem is_l0 (l : List S46) (hl : l.length < 4611686018427387904) (hz : ∀ z ∈ l, z.f0.length < 4611686018427387904) : ∀ (n i : Nat), i + n = l.length → Ev (fun k => stockadelaw18_Is.l0 k (l.map tr) l i) true := by
  intro n
  induction n with
  | zero =>
    intro i hi
    refine Ev.step_ (g := fun _ => some true) (fun K => ?_) Ev.pure
    rw [stockadelaw18_Is.l0, if_neg (by rw [List.length_map]; omega)]
  | succ n ih =>
    intro i hi
    have hil : i < l.length := by omega
    have h := ih (i + 1) (by omega)
    rw [← ws (by omega)] at h
    have e1 : rd_T53 (l.map tr) (i : Int) = tr l[i] := by rw [rd53 (by simpa using hil)]; simp
    have e2 : (tr l[i]).f0.length = l[i].f0.length := by simp [tr]
    refine Ev.step_ (g := fun k => stockadelaw18_Is.j1 k (l.map tr) l i false) (fun K => ?_) (Ev.step_ (g := fun k => stockadelaw18_Is.l1 k (l.map tr) l i 0) (fun K => ?_) (is_l1 l i hil (by omega) (hz _ (List.getElem_mem hil)) h l[i].f0.length 0 (by omega)))
    · rw [stockadelaw18_Is.l0, if_pos (by rw [List.length_map]; omega), if_pos (by omega), if_pos (by omega), e1, rd46 hil, if_pos (show (tr l[i]).f1 = l[i].f1 from rfl), e2]
      simp
    · rw [stockadelaw18_Is.j1]; simp
theorem is_ev (l : List S46) (hl : l.length < 4611686018427387904) (hz : ∀ z ∈ l, z.f0.length < 4611686018427387904) : Ev (fun k => stockadelaw18_Is.f k (l.map tr) l) true := by
  refine Ev.eqn (g := fun k => stockadelaw18_Is.l0 k (l.map tr) l 0) (fun K => ?_) (is_l0 l hl hz l.length 0 (by omega))
  unfold stockadelaw18_Is.f
  rw [if_pos (by rw [List.length_map])]

theorem Small.is {l : List S46} (h : Small l) : Ev (fun k => stockadelaw18_Is.f k (l.map tr) l) true := is_ev l (by have := h.1; omega) (fun z hz => by have := h.2 z hz; omega)
end Go.Proofs.YtighficpbplkhaaDoor.Pure
