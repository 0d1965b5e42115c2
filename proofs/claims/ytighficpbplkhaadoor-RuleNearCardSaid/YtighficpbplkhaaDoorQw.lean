/- Chapter 18, plain: the rows that each law asks first; what Judge tells of two tables, of bytes far behind. No conditions but the ones each theorem names. -/
import Derived.Test.YtighficpbplkhaaDoorQc
import Derived.Test.YtighficpbplkhaaDoorPx21
namespace Go.Proofs.YtighficpbplkhaaDoor.Pure
open Go.RowKit Go.Proofs.YtighficpbplkhaaDoorW.PrintWords Go.Proofs.YtighficpbplkhaaDoorW.PrintLast Go.Proofs.YtighficpbplkhaaDoorW.PrintMore Go.Proofs.YtighficpbplkhaaDoor.P
set_option linter.unusedVariables false
set_option linter.unusedSimpArgs false
set_option maxRecDepth 100000

theorem wakes_300 : stockadelaw18_wakes.f 300 = some true := by kernel_rfl
theorem wakes_ev : Ev (fun k => stockadelaw18_wakes.f k) true := Ev.of (fun k => stockadelaw18_wakes.mono k) wakes_300
theorem wakes_some : Ev (fun k => (stockadelaw18_wakes.f k).bind fun t => some t) true := Ev.bind_ wakes_ev Ev.pure
theorem okL.fits {l : List S46} (h : okL l) : Fits (l.map tr) := ⟨by have := h.1; rw [List.length_map]; omega, fun z hz => by
  obtain ⟨y, hy, rfl⟩ := List.mem_map.1 hz
  have := (h.2 y hy).1
  simp only [tr, List.length_map]; omega⟩
theorem okL.large {l : List S46} (h : okL l) : ∃ b, Ev (fun k => stockadelaw18_large.f k l) b ∧ (b = false → Small l) := large_ev l h.1 (fun z hz => (h.2 z hz).1)

theorem judge_range (p : List Int) (port : Int) : ∀ (l : List S53) (i : Int), 0 ≤ i → judgeV p port l i = (0, -1) ∨ ∃ (j : Nat) (h : j < l.length), judgeV p port l i = (l[j].f1, i + j) := by
  intro l
  induction l with
  | nil => intro i _; exact .inl rfl
  | cons r l ih =>
    intro i hi
    rw [judgeV]
    by_cases c : r.f0.all (fun t => holdsV t p port) = true
    · rw [if_pos c]; exact .inr ⟨0, by simp, by simp⟩
    · rw [if_neg c]
      rcases ih (i + 1) (by omega) with h | ⟨j, hj, h⟩
      · exact .inl h
      · refine .inr ⟨j + 1, by simpa using hj, ?_⟩
        rw [h]
        simp only [List.getElem_cons_succ, Prod.mk.injEq, true_and]
        omega
theorem judge_append (p : List Int) (port : Int) (b : List S53) : ∀ (a : List S53) (i : Int), 0 ≤ i → judgeV p port (a ++ b) i = if 0 ≤ (judgeV p port a i).2 then judgeV p port a i else judgeV p port b (i + a.length) := by
  intro a
  induction a with
  | nil => intro i _; simp [judgeV]
  | cons r a ih =>
    intro i hi
    rw [List.cons_append, judgeV, judgeV]
    by_cases c : r.f0.all (fun t => holdsV t p port) = true
    · rw [if_pos c, if_pos c, if_pos hi]
    · rw [if_neg c, if_neg c, ih (i + 1) (by omega)]
      have : i + 1 + (a.length : Int) = i + ((r :: a).length : Int) := by simp; omega
      rw [this]
theorem judge_shift (p : List Int) (port : Int) : ∀ (l : List S53) (i d : Int), 0 ≤ i → 0 ≤ d → judgeV p port l (i + d) = if 0 ≤ (judgeV p port l i).2 then ((judgeV p port l i).1, (judgeV p port l i).2 + d) else (0, -1) := by
  intro l
  induction l with
  | nil => intro i d _ _; simp [judgeV]
  | cons r l ih =>
    intro i d hi hd
    rw [judgeV, judgeV]
    by_cases c : r.f0.all (fun t => holdsV t p port) = true
    · rw [if_pos c, if_pos c, if_pos hi]
    · rw [if_neg c, if_neg c, show i + d + 1 = i + 1 + d by omega, ih (i + 1) d (by omega) hd]

/-! bytes far behind -/
theorem numO_far (p : List Int) (a s : Nat) (m v : Int) (j : Nat) (h : a + s ≤ j) : numO (p.set j v) a s m = numO p a s m := by
  unfold numO sub
  rw [List.length_set, List.take_set_of_le h]
theorem ask_far (t : S50) (p : List Int) (port v : Int) (hp : Bytes p) (hm : MayP t) (j : Nat) (hj : 337 ≤ j) : askO t (p.set j v) port = askO t p port := by
  unfold askO
  by_cases c1 : t.f1 = 1
  · rw [if_pos c1, if_pos c1, List.length_set]
  · by_cases c2 : t.f1 = 2
    · rw [if_neg c1, if_neg c1, if_pos c2, if_pos c2]
    · obtain ⟨h34, ha, hb, hc, hd⟩ := may_sizes hm c1 c2
      rw [if_neg c1, if_neg c1, if_neg c2, if_neg c2, List.length_set]
      by_cases c3 : t.f1 = 3
      · rw [if_pos c3, if_pos c3, numO_far _ _ _ _ _ _ (by omega)]
      · rw [if_neg c3, if_neg c3]
        by_cases c4 : p.length ≤ 14
        · rw [if_pos c4, if_pos c4]
        · have e : rd (p.set j v) 14 = rd p 14 := by
            have h1 := rd_get (p := p.set j v) (i := 14) (by rw [List.length_set]; omega)
            have h2 := rd_get (p := p) (i := 14) (by omega)
            rw [show (14 : Int) = ((14 : Nat) : Int) from rfl, h1, h2]
            exact List.getElem_set_ne (by omega) _
          rw [if_neg c4, if_neg c4, e]
          exact numO_far _ _ _ _ _ _ (by omega)
theorem holds_far (t : S50) (p : List Int) (port v : Int) (hp : Bytes p) (j : Nat) (hj : 337 ≤ j) : holdsV t (p.set j v) port = holdsV t p port := by
  unfold holdsV
  cases hm : mayB t with
  | false => rfl
  | true => rw [ask_far t p port v hp (mayP hm) j hj]
theorem judge_far (p : List Int) (port v : Int) (hp : Bytes p) (j : Nat) (hj : 337 ≤ j) : ∀ (l : List S53) (i : Int), judgeV (p.set j v) port l i = judgeV p port l i := by
  intro l
  induction l with
  | nil => intro i; rfl
  | cons r l ih =>
    intro i
    rw [judgeV, judgeV, ih]
    have : (fun t => holdsV t (p.set j v) port) = fun t => holdsV t p port := funext fun t => holds_far t p port v hp j hj
    rw [this]
/-- A test, and it with Not. -/
def flip (t : S50) : S50 := ⟨!t.f0, t.f1, t.f2, t.f3, t.f4, t.f5, t.f6⟩
theorem holds_flip (t : S50) (p : List Int) (port : Int) : holdsV (flip t) p port = (mayB t && !holdsV t p port) := by
  unfold holdsV
  have e1 : mayB (flip t) = mayB t := rfl
  have e2 : askO (flip t) p port = askO t p port := rfl
  rw [e1, e2]
  show (mayB t && (innB t.f5 t.f6 (askO t p port) != !t.f0)) = (mayB t && !(mayB t && (innB t.f5 t.f6 (askO t p port) != t.f0)))
  generalize innB t.f5 t.f6 (askO t p port) = c
  cases mayB t <;> cases t.f0 <;> cases c <;> rfl
end Go.Proofs.YtighficpbplkhaaDoor.Pure
