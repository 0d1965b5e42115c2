/- Chapter 02: the document's Reads, Writes, Places answer as the program's. -/
import Derived.Test.YtkojjjdeacdabaaDoorIk
namespace Go.Proofs.YtkojjjdeacdabaaDoor.Pure
open Go.RowKit Go.Proofs.YtkojjjdeacdabaaDoorW.PrintWords Go.Proofs.YtkojjjdeacdabaaDoorW.PrintLast Go.Proofs.YtkojjjdeacdabaaDoorW.PrintMore Go.Proofs.YtkojjjdeacdabaaDoor.P
set_option linter.unusedVariables false
set_option linter.unusedSimpArgs false

theorem pick2 {x y : Int} (x0 : 0 ≤ x) (x1 : x ≤ 10) (y0 : 0 ≤ y) (y1 : y ≤ 10) : (upL 0).filter (pB true true false x y) = if x ≠ y then [mn x y, mx x y] else [x] := by
  have h : ∀ a b : Fin 11, (upL 0).filter (pB true true false (a.val : Int) (b.val : Int)) = if (a.val : Int) ≠ (b.val : Int) then [mn (a.val : Int) (b.val : Int), mx (a.val : Int) (b.val : Int)] else [(a.val : Int)] := by decide +kernel
  obtain ⟨n, rfl⟩ := Int.eq_ofNat_of_zero_le x0
  obtain ⟨m, rfl⟩ := Int.eq_ofNat_of_zero_le y0
  exact h ⟨n, by omega⟩ ⟨m, by omega⟩
theorem pick1 {x y : Int} (x0 : 0 ≤ x) (x1 : x ≤ 10) : (upL 0).filter (pB true false false x y) = [x] := by
  have h : ∀ a : Fin 11, (upL 0).filter (pB true false false (a.val : Int) 0) = [(a.val : Int)] := by decide +kernel
  obtain ⟨n, rfl⟩ := Int.eq_ofNat_of_zero_le x0
  exact h ⟨n, by omega⟩
theorem pick1' {x y : Int} (y0 : 0 ≤ y) (y1 : y ≤ 10) : (upL 0).filter (pB false true false x y) = [y] := by
  have h : ∀ a : Fin 11, (upL 0).filter (pB false true false 0 (a.val : Int)) = [(a.val : Int)] := by decide +kernel
  obtain ⟨n, rfl⟩ := Int.eq_ofNat_of_zero_le y0
  exact h ⟨n, by omega⟩
theorem reads_bad {w : W5} {dst src : Int} (h : ¬ bad1 (fieldsV w) dst src) : (readsB w = true → dst ≤ 10) ∧ ((fieldsV w).2.2.1 = true → src ≤ 10) := by
  have h1 : readsB w = true → (fieldsV w).1 = true := by
    unfold readsB
    intro h
    simp only [Bool.or_eq_true, Bool.and_eq_true, decide_eq_true_eq] at h
    rcases h with (h | h) | h
    · exact h.1
    · unfold fieldsV; rw [if_pos h.1]
    · unfold fieldsV; rw [if_neg (by omega), if_pos (.inl h)]
  unfold bad1 at h
  constructor
  · intro c; have := h1 c; apply Classical.byContradiction; intro g; exact h (.inl ⟨this, by omega⟩)
  · intro c; apply Classical.byContradiction; intro g; exact h (.inr (.inr ⟨c, by omega⟩))
theorem refReads_eq {op dst src off imm : Int} (k : Nat) (h0 : 0 ≤ op) (h1 : op ≤ 255) (d0 : 0 ≤ dst) (d1 : dst ≤ 255) (s0 : 0 ≤ src) (s1 : src ≤ 255) (i0 : -2147483648 ≤ imm) (i1 : imm ≤ 2147483647) :
    stockaderef02_Reads.f (k + 200) op dst src off imm = some (if (ofV op dst src off imm).2.2.2.2.2 = 0 then readsV (kindV op src imm) dst src else []) := by
  unfold stockaderef02_Reads.f
  rw [refOf_eq k h0 h1 d0 s0 s1 i0 i1, Option.bind_some]
  by_cases he : (ofV op dst src off imm).2.2.2.2.2 = 0
  · rw [if_pos he, if_pos he, (of_ok he).1, Find_eq k h0 h1 s0 s1 i0 i1, Option.bind_some]
    have hu := use_ok (imm := imm) h0 h1 s0
    have hb := reads_bad (of_ok he).2.2.1
    have hk0 := (of_ok he).2.1
    cases hf : (rowsOf op).find? (hit src imm) with
    | none =>
      rw [hf] at hu
      have : kindV op src imm = zeroV := of_decide_eq_true hu
      rw [this] at hk0; exact absurd rfl hk0
    | some t =>
      rw [hf] at hu
      obtain ⟨q0, q1, q2, q3, q4, q5, D, S, q8, q9, q10⟩ := t
      simp only [useOk, Bool.and_eq_true, beq_iff_eq] at hu
      obtain ⟨⟨hD, hW⟩, hS⟩ := hu
      generalize kindV op src imm = w at *
      have hl := refReads_l0 (op := op) (off := off) (imm := imm) d0 d1 s0 s1 w.1 w.2.1 w.2.2.1 w.2.2.2.1 w.2.2.2.2 q0 q1 q2 q3 q4 q5 D S q8 q9 q10 11 0 (k + 200) [] (by omega) (by omega) (by simp) (by omega)
      rw [show ((0 : Nat) : Int) = 0 from rfl] at hl
      unfold kOf yes
      dsimp only
      rw [hl]
      have hd : dB D w.1 w.2.1 = readsB w := by unfold dB readsB; rw [hD]
      rw [hd, hS, List.nil_append]
      unfold readsV
      by_cases c9 : w.1 = 9
      · have hf9 : fieldsV w = (false, false, false, false, false) := by unfold fieldsV; simp [c9]
        have hr9 : readsB w = false := by unfold readsB; simp [hf9, c9]
        rw [if_pos c9, hr9, hf9, decide_eq_true c9]
        rfl
      · rw [if_neg c9, decide_eq_false c9]
        cases hr : readsB w
        · cases hs : (fieldsV w).2.2.1
          · simp only [Bool.false_eq_true, false_and, if_false]
            have : ∀ n : Int, pB false false false dst src n = pB false false false 0 0 n := fun n => rfl
            rw [show pB false false false dst src = pB false false false 0 0 from funext this]
            congr 1
          · rw [pick1' s0 (hb.2 hs)]; simp
        · cases hs : (fieldsV w).2.2.1
          · rw [pick1 d0 (hb.1 hr)]; simp
          · rw [pick2 d0 (hb.1 hr) s0 (hb.2 hs)]
            by_cases hx : dst = src <;> simp [hx]
  · rw [if_neg he, if_neg he]
theorem refWrites_eq {op dst src off imm : Int} (k : Nat) (h0 : 0 ≤ op) (h1 : op ≤ 255) (d0 : 0 ≤ dst) (d1 : dst ≤ 255) (s0 : 0 ≤ src) (s1 : src ≤ 255) (i0 : -2147483648 ≤ imm) (i1 : imm ≤ 2147483647) :
    stockaderef02_Writes.f (k + 200) op dst src off imm = some (if (ofV op dst src off imm).2.2.2.2.2 = 0 then writesV (kindV op src imm) dst else -1) := by
  have ed : wrap64 dst = dst := fitW (by omega) (by omega)
  unfold stockaderef02_Writes.f
  rw [refOf_eq k h0 h1 d0 s0 s1 i0 i1, Option.bind_some]
  by_cases he : (ofV op dst src off imm).2.2.2.2.2 = 0
  · rw [if_pos he, if_pos he, (of_ok he).1, Find_eq k h0 h1 s0 s1 i0 i1, Option.bind_some, ed]
    have hu := use_ok (imm := imm) h0 h1 s0
    have hk0 := (of_ok he).2.1
    cases hf : (rowsOf op).find? (hit src imm) with
    | none =>
      rw [hf] at hu
      have : kindV op src imm = zeroV := of_decide_eq_true hu
      rw [this] at hk0; exact absurd rfl hk0
    | some t =>
      rw [hf] at hu
      obtain ⟨q0, q1, q2, q3, q4, q5, D, S, q8, q9, q10⟩ := t
      simp only [useOk, Bool.and_eq_true, beq_iff_eq] at hu
      obtain ⟨⟨hD, hW⟩, hS⟩ := hu
      unfold kOf yes writesV
      dsimp only
      rw [← hW]
      by_cases c1 : (kindV op src imm).1 = 8
      · rw [if_pos c1, if_pos c1]
      · rw [if_neg c1, if_neg c1]
        by_cases c2 : D = 2 <;> simp [c2]
  · rw [if_neg he, if_neg he]
theorem refPlaces_eq {op dst src off imm : Int} (k : Nat) (h0 : 0 ≤ op) (h1 : op ≤ 255) (d0 : 0 ≤ dst) (s0 : 0 ≤ src) (s1 : src ≤ 255) (i0 : -2147483648 ≤ imm) (i1 : imm ≤ 2147483647) :
    stockaderef02_Places.f (k + 200) op dst src off imm = some (if (ofV op dst src off imm).2.2.2.2.2 = 0 then placesV (kindV op src imm) else 0) := by
  unfold stockaderef02_Places.f
  rw [refOf_eq k h0 h1 d0 s0 s1 i0 i1, Option.bind_some]
  by_cases he : (ofV op dst src off imm).2.2.2.2.2 = 0
  · rw [if_pos he, if_pos he, (of_ok he).1]
    unfold kOf placesV
    dsimp only
    by_cases c1 : (kindV op src imm).1 = 10 <;> by_cases c2 : (kindV op src imm).1 = 11 <;> simp [c1, c2]
  · rw [if_neg he, if_neg he]
end Go.Proofs.YtkojjjdeacdabaaDoor.Pure
