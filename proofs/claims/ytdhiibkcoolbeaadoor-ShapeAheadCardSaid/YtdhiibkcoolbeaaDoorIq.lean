/- Chapter 04: what alone, Starts and Check come to, in plain terms. -/
import Derived.Test.YtdhiibkcoolbeaaDoorPxXXSt
import Derived.Test.YtdhiibkcoolbeaaDoorPxXXCk
import Derived.Test.YtdhiibkcoolbeaaDoorIp
namespace Go.Proofs.YtdhiibkcoolbeaaDoor.Pure
open Go.RowKit Go.Proofs.YtdhiibkcoolbeaaDoorW.PrintWords Go.Proofs.YtdhiibkcoolbeaaDoorW.PrintLast Go.Proofs.YtdhiibkcoolbeaaDoorW.PrintMore Go.Proofs.YtdhiibkcoolbeaaDoor.P Go.Proofs.YtdhiibkcoolbeaaDoor.Opening
set_option linter.unusedVariables false
set_option linter.unusedSimpArgs false

/-- What Of answers of an instruction. -/
def ofx (x : S40) : Int × Int × Int × Bool × Bool × Int := ofV x.f0 x.f1 x.f2 x.f3 x.f4
def plx (x : S40) : Int := if (ofx x).2.2.2.2.2 = 0 then placesV (kindV x.f0 x.f2 x.f4) else 0
theorem of_at {x : S40} (h : ok40 x) (k : Nat) : insn_Of.f (k + 4) x.f0 x.f1 x.f2 x.f3 x.f4 = some (ofx x) := by
  obtain ⟨⟨h0, h1⟩, _, ⟨s0, s1⟩, _, ⟨i0, i1⟩⟩ := ok40_open h
  exact Of_eq k h0 h1 s0 s1 i0 i1
theorem pl_at {x : S40} (h : ok40 x) (k : Nat) : insn_Places.f (k + 4) x.f0 x.f1 x.f2 x.f3 x.f4 = some (plx x) := by
  obtain ⟨⟨h0, h1⟩, _, ⟨s0, s1⟩, _, ⟨i0, i1⟩⟩ := ok40_open h
  exact Places_eq k h0 h1 s0 s1 i0 i1
theorem plx_le (x : S40) : plx x = 0 ∨ plx x = 1 ∨ plx x = 2 := by
  unfold plx placesV
  split
  · split
    · exact .inr (.inr rfl)
    · exact .inr (.inl rfl)
  · exact .inl rfl
theorem ok40_z : ok40 z40 := ⟨by decide, by decide, by decide, by decide, by decide⟩
theorem ok_rd {C : List S40} (h : ∀ z ∈ C, ok40 z) (i : Int) : ok40 (rd_T40 C i) := by
  unfold rd_T40
  rw [List.getD_eq_getElem?_getD]
  cases hx : C[i.toNat]? with
  | none => exact ok40_z
  | some x => exact h x (List.mem_of_getElem? hx)
def rdn (C : List S40) (i : Nat) : S40 := rd_T40 C (i : Int)
def plC (C : List S40) (i : Nat) : Int := plx (rdn C i)
theorem ofF_eq {C : List S40} (h : ∀ z ∈ C, ok40 z) (k i : Nat) : ofF (k + 4) C i = ofx (rdn C i) := by
  unfold ofF rdn; rw [of_at (ok_rd h _) k]; rfl
theorem plF_eq {C : List S40} (h : ∀ z ∈ C, ok40 z) (k i : Nat) : plF (k + 4) C i = plC C i := by
  unfold plF plC rdn; rw [pl_at (ok_rd h _) k]; rfl
theorem plF_fun {C : List S40} (h : ∀ z ∈ C, ok40 z) (k : Nat) : plF (k + 4) C = plC C := funext (plF_eq h k)
theorem plAll_ok {C : List S40} (h : ∀ z ∈ C, ok40 z) (k : Nat) : plAll (k + 4) C = true := by
  refine List.all_eq_true.2 fun i _ => ?_
  unfold plOk
  rw [pl_at (ok_rd h _) k]
  rcases plx_le (rd_T40 C (i : Int)) with e | e | e <;> rw [e] <;> rfl
theorem ofAll_ok {C : List S40} (h : ∀ z ∈ C, ok40 z) (k : Nat) : ofAll (k + 4) C = true := by
  refine List.all_eq_true.2 fun i _ => ?_
  rw [of_at (ok_rd h _) k]; rfl
theorem mayAll_ok (M : List S52) : mayAll M = true := by
  refine List.all_eq_true.2 fun i _ => ?_
  unfold shape_may.f
  repeat' split
  all_goals rfl
/-- What alone's error is. -/
def alE (M : List S52) (C : List S40) (i : Nat) : Int :=
  let w := ofx (rdn C i)
  if w.2.2.2.2.2 ≠ 0 then w.2.2.2.2.2
  else if w.1 = 10 ∨ w.1 = 11 then
    if i + 1 = C.length then 23
    else
      let s := rdn C (i + 1)
      if s.f0 ≠ 0 ∨ s.f1 ≠ 0 ∨ s.f2 ≠ 0 ∨ s.f3 ≠ 0 ∨ w.1 = 11 ∧ s.f4 ≠ 0 then 23
      else if w.1 = 11 ∧ ((rdn C i).f4 < 0 ∨ (rdn C i).f4 ≥ M.length) then 26 else 0
  else if w.1 = 8 ∧ ¬ ((rdn C i).f4 = 1 ∨ (rdn C i).f4 = 2 ∨ (rdn C i).f4 = 3 ∨ (rdn C i).f4 = 5 ∨ (rdn C i).f4 = 7) then 27 else 0
def alX (M : List S52) (C : List S40) (i : Nat) : Int × Int × Int × Bool × Bool × Int :=
  let w := ofx (rdn C i)
  (w.1, w.2.1, w.2.2.1, w.2.2.2.1, w.2.2.2.2.1, alE M C i)
def helpB (n : Int) : Bool := decide (n = 1 ∨ n = 2 ∨ n = 3 ∨ n = 5 ∨ n = 7)
theorem Helper_eq (n : Int) : shape_Helper.f n = some (helpB n) := by
  unfold shape_Helper.f helpB
  repeat' split
  all_goals simp_all
set_option maxHeartbeats 2000000 in
theorem alone_eq {M : List S52} {C : List S40} (h : ∀ z ∈ C, ok40 z) (hl : C.length < 9223372036854775807) (k i : Nat) (hi : i < C.length) : shape_alone.f (k + 4) M C (i : Int) = some (alX M C i) := by
  have hw : wrap64 ((i : Int) + 1) = ((i + 1 : Nat) : Int) := by rw [fitW (by omega) (by omega)]; rfl
  obtain ⟨_, _, _, _, ⟨i0, i1⟩⟩ := ok40_open (ok_rd h (i : Int))
  have hw4 : wrap64 (rd_T40 C (i : Int)).f4 = (rd_T40 C (i : Int)).f4 := fitW (by omega) (by omega)
  unfold shape_alone.f
  rw [if_pos (by omega), if_pos (by omega), of_at (ok_rd h _) k, Option.bind_some]
  unfold alX alE
  have er : rdn C i = rd_T40 C (i : Int) := rfl
  have er1 : rdn C (i + 1) = rd_T40 C ((i + 1 : Nat) : Int) := rfl
  rw [er, er1]
  dsimp only
  generalize ofx (rd_T40 C (i : Int)) = g
  obtain ⟨g1, g2, g3, g4, g5, g6⟩ := g
  dsimp only
  by_cases c6 : g6 = 0
  · rw [if_pos c6]
    subst c6
    unfold shape_alone.j0 shape_alone.j1
    simp only [hw, hw4, Helper_eq]
    have e1 : (((i + 1 : Nat) : Int) = (C.length : Int)) ↔ i + 1 = C.length := by omega
    have e2 : (0 : Int) ≤ ((i + 1 : Nat) : Int) := by omega
    simp only [e1, if_pos e2]
    generalize rd_T40 C ((i + 1 : Nat) : Int) = s at *
    generalize rd_T40 C (i : Int) = r at *
    by_cases c10 : g1 = 10
    · subst c10
      by_cases ce : i + 1 = C.length
      · simp [ce]
      · have e3 : ((i + 1 : Nat) : Int) < (C.length : Int) := by omega
        simp only [ce, e3, if_true, if_false, ne_eq, not_true_eq_false, true_or, show ¬ ((10 : Int) = 11) by decide, false_and, or_false, show ((10 : Int) == 10) = true by decide]
        by_cases a0 : s.f0 = 0 <;> by_cases a1 : s.f1 = 0 <;> by_cases a2 : s.f2 = 0 <;> by_cases a3 : s.f3 = 0 <;> simp [a0, a1, a2, a3]
    · rw [if_neg c10]
      by_cases c11 : g1 = 11
      · subst c11
        by_cases ce : i + 1 = C.length
        · simp [ce]
        · have e3 : ((i + 1 : Nat) : Int) < (C.length : Int) := by omega
          simp only [ce, e3, if_true, if_false, ne_eq, not_true_eq_false, or_true, true_and, show ¬ ((11 : Int) = 10) by decide, show ((11 : Int) == 11) = true by decide]
          by_cases a0 : s.f0 = 0 <;> by_cases a1 : s.f1 = 0 <;> by_cases a2 : s.f2 = 0 <;> by_cases a3 : s.f3 = 0 <;> by_cases a4 : s.f4 = 0 <;> simp [a0, a1, a2, a3, a4]
          by_cases b0 : r.f4 < 0 <;> by_cases b1 : (M.length : Int) ≤ r.f4 <;> simp [b0, b1]
      · have c11' : (g1 == 11) = false := by simpa using c11
        simp only [c11', Bool.false_eq_true, if_false, c10, c11, or_self, ne_eq, not_true_eq_false]
        by_cases c8 : g1 = 8
        · subst c8
          unfold helpB
          simp only [if_true, Option.bind_some, true_and, decide_eq_true_eq]
          split <;> simp_all
        · simp [c8]
  · rw [if_neg c6]; simp [c6]
theorem alF_eq {M : List S52} {C : List S40} (h : ∀ z ∈ C, ok40 z) (hl : C.length < 9223372036854775807) (k i : Nat) (hi : i < C.length) : alF (k + 4) M C i = alX M C i := by
  unfold alF; rw [alone_eq h hl k i hi]; rfl
theorem alAll_ok {M : List S52} {C : List S40} (h : ∀ z ∈ C, ok40 z) (hl : C.length < 9223372036854775807) (k : Nat) : alAll (k + 4) M C = true := by
  refine List.all_eq_true.2 fun i hi => ?_
  rw [alone_eq h hl k i (List.mem_range.1 hi)]; rfl
/-- Where instructions begin. -/
def stC (C : List S40) : List Bool := marks (beg (plC C) C.length 0)
theorem Starts_eq {C : List S40} (h : ∀ z ∈ C, ok40 z) (hl : C.length ≤ 281474976710656) : shape_Starts.f C = some (stC C) := by
  unfold shape_Starts.f startsK
  rw [if_pos ⟨hl, plAll_ok h 36⟩, plF_fun h 36]; rfl
theorem stC_len (C : List S40) : (stC C).length = C.length := marks_len _
theorem stC_get (C : List S40) {i : Int} (h : 0 ≤ i) : rdOf false (stC C) i = bg (plC C) C.length i.toNat := rd_marks h
/-- A right image: what Check has seen of it. -/
structure Right (M : List S52) (C : List S40) : Prop where
  pos : 0 < C.length
  le : C.length ≤ 512
  mle : M.length ≤ 4
  maps : mapsBad M = none
  alone : ∀ i, bg (plC C) C.length i = true → alE M C i = 0
  jumps : ∀ i, bg (plC C) C.length i = true → badJ 40 C (stC C) i = false
  last : ∀ p, (beg (plC C) C.length 0).getLast? = some p → (ofx (rdn C p.1)).1 = 7 ∨ (ofx (rdn C p.1)).1 = 9
theorem Check_some {M : List S52} {C : List S40} (h : ∀ z ∈ C, ok40 z) : ∃ v, shape_Check.f M C = some v := by
  unfold shape_Check.f checkK
  by_cases c0 : C.length = 0
  · rw [if_pos c0]; exact ⟨_, rfl⟩
  · rw [if_neg c0]
    by_cases c1 : C.length > 512 ∨ M.length > 4
    · rw [if_pos c1]; exact ⟨_, rfl⟩
    · rw [if_neg c1, if_pos ⟨plAll_ok h 36, alAll_ok h (by omega) 36, ofAll_ok h 36, mayAll_ok M⟩]; exact ⟨_, rfl⟩
theorem right_of {M : List S52} {C : List S40} (h : ∀ z ∈ C, ok40 z) {v : Int × Int} (hv : shape_Check.f M C = some v) (h0 : v.2 = 0) : Right M C := by
  unfold shape_Check.f checkK at hv
  by_cases c0 : C.length = 0
  · rw [if_pos c0] at hv; cases hv; exact absurd h0 (by decide)
  rw [if_neg c0] at hv
  by_cases c1 : C.length > 512 ∨ M.length > 4
  · rw [if_pos c1] at hv; cases hv; exact absurd h0 (by decide)
  rw [if_neg c1, if_pos ⟨plAll_ok h 36, alAll_ok h (by omega) 36, ofAll_ok h 36, mayAll_ok M⟩] at hv
  obtain rfl := Option.some.inj hv
  unfold checkV at h0
  rw [plF_fun h 36] at h0
  cases hm : mapsBad M with
  | some i => rw [hm] at h0; exact absurd h0 (by simp)
  | none =>
    rw [hm] at h0
    dsimp only at h0
    cases ha : (beg (plC C) C.length 0).find? fun p => decide ((alF 40 M C p.1).2.2.2.2.2 ≠ 0) with
    | some p =>
      rw [ha] at h0
      have := List.find?_some ha
      simp at this
      exact absurd h0 this
    | none =>
      rw [ha] at h0
      dsimp only at h0
      cases hj : (beg (plC C) C.length 0).find? fun p => badJ 40 C (marks (beg (plC C) C.length 0)) p.1 with
      | some p => rw [hj] at h0; exact absurd h0 (by simp)
      | none =>
        rw [hj] at h0
        dsimp only at h0
        refine ⟨by omega, by omega, by omega, hm, fun i hi => ?_, fun i hi => ?_, fun p hp => ?_⟩
        · obtain ⟨hl, hmem⟩ := bg_iff.1 hi
          have := List.find?_eq_none.1 ha _ hmem
          rw [alF_eq h (by omega) 36 i hl] at this
          exact Decidable.byContradiction fun hne => this (decide_eq_true hne)
        · obtain ⟨hl, hmem⟩ := bg_iff.1 hi
          have := List.find?_eq_none.1 hj _ hmem
          simpa [stC] using this
        · rw [hp] at h0
          simp only [Option.map_some, Option.getD_some, alF_eq h (show C.length < 9223372036854775807 by omega) 36 p.1 p.2] at h0
          by_cases e : (ofx (rdn C p.1)).1 = 7 ∨ (ofx (rdn C p.1)).1 = 9
          · exact e
          · rw [if_pos (by simpa [alX, not_or] using e)] at h0
            exact absurd h0 (by simp)
theorem right_eq {M : List S52} {C : List S40} (h : ∀ z ∈ C, ok40 z) (R : Right M C) : shape_Check.f M C = some (0, 0) := by
  unfold shape_Check.f checkK
  rw [if_neg (by have := R.pos; omega), if_neg (by have := R.le; have := R.mle; omega), if_pos ⟨plAll_ok h 36, alAll_ok h (by have := R.le; omega) 36, ofAll_ok h 36, mayAll_ok M⟩]
  have ha : ((beg (plC C) C.length 0).find? fun p => decide ((alF 40 M C p.1).2.2.2.2.2 ≠ 0)) = none := by
    rw [List.find?_eq_none]
    intro p hp
    rw [alF_eq h (by have := R.le; omega) 36 p.1 p.2]
    exact fun hd => (of_decide_eq_true hd) (R.alone p.1 (bg_iff.2 ⟨p.2, hp⟩))
  have hj : ((beg (plC C) C.length 0).find? fun p => badJ 40 C (marks (beg (plC C) C.length 0)) p.1) = none := by
    rw [List.find?_eq_none]
    intro p hp
    have := R.jumps p.1 (bg_iff.2 ⟨p.2, hp⟩)
    simpa [stC] using this
  unfold checkV
  rw [plF_fun h 36, R.maps]
  dsimp only
  rw [ha]
  dsimp only
  rw [hj]
  dsimp only
  have hne : beg (plC C) C.length 0 ≠ [] := by rw [beg_lt R.pos]; simp
  obtain ⟨p, hp⟩ : ∃ p, (beg (plC C) C.length 0).getLast? = some p := ⟨_, List.getLast?_eq_some_getLast hne⟩
  rw [hp]
  simp only [Option.map_some, Option.getD_some, alF_eq h (show C.length < 9223372036854775807 by have := R.le; omega) 36 p.1 p.2]
  have := R.last p hp
  rw [if_neg (by simp [alX]; intro h7; exact this.resolve_left h7)]
end Go.Proofs.YtdhiibkcoolbeaaDoor.Pure
