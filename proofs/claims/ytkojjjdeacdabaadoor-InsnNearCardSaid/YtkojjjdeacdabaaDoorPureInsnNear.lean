/- Chapter 02: the law InsnNear in plain terms. -/
import Derived.Test.YtkojjjdeacdabaaDoorPx21
import Derived.Test.YtkojjjdeacdabaaDoorIj
import Derived.Test.YtkojjjdeacdabaaDoorIf
namespace Go.Proofs.YtkojjjdeacdabaaDoor.Pure
open Go.RowKit Go.Proofs.YtkojjjdeacdabaaDoorW.PrintWords Go.Proofs.YtkojjjdeacdabaaDoorW.PrintLast Go.Proofs.YtkojjjdeacdabaaDoorW.PrintMore Go.Proofs.YtkojjjdeacdabaaDoor.P
set_option linter.unusedVariables false
set_option linter.unusedSimpArgs false

theorem reads_ok {w : W5} {dst src : Int} (d0 : 0 ≤ dst) (s0 : 0 ≤ src) (h : ¬ bad1 (fieldsV w) dst src) :
    readsV w dst src = [] ∨ (∃ a, readsV w dst src = [a] ∧ 0 ≤ a ∧ a ≤ 10) ∨ (∃ a b, readsV w dst src = [a, b] ∧ 0 ≤ a ∧ a < b ∧ b ≤ 10) := by
  have h1 : readsB w = true → (fieldsV w).1 = true := by
    unfold readsB
    intro h
    simp only [Bool.or_eq_true, Bool.and_eq_true, decide_eq_true_eq] at h
    rcases h with (h | h) | h
    · exact h.1
    · unfold fieldsV; rw [if_pos h.1]
    · unfold fieldsV; rw [if_neg (by omega), if_pos (.inl h)]
  have hd : readsB w = true → dst ≤ 10 := by
    intro c; have := h1 c; apply Classical.byContradiction; intro g; exact h (.inl ⟨this, by omega⟩)
  have hs : (fieldsV w).2.2.1 = true → src ≤ 10 := by
    intro c; apply Classical.byContradiction; intro g; exact h (.inr (.inr ⟨c, by omega⟩))
  unfold readsV
  by_cases c9 : w.1 = 9
  · rw [if_pos c9]; exact .inr (.inl ⟨0, rfl, by omega, by omega⟩)
  rw [if_neg c9]
  by_cases c2 : readsB w = true ∧ (fieldsV w).2.2.1 = true ∧ dst ≠ src
  · rw [if_pos c2]
    have := hd c2.1; have := hs c2.2.1; have := c2.2.2
    refine .inr (.inr ⟨_, _, rfl, ?_, ?_, ?_⟩) <;> (try unfold mn) <;> (try unfold mx) <;> (repeat' split) <;> omega
  rw [if_neg c2]
  by_cases c3 : readsB w = true
  · rw [if_pos c3]; exact .inr (.inl ⟨dst, rfl, d0, hd c3⟩)
  rw [if_neg c3]
  by_cases c4 : (fieldsV w).2.2.1 = true
  · rw [if_pos c4]; exact .inr (.inl ⟨src, rfl, s0, hs c4⟩)
  rw [if_neg c4]; exact .inl rfl
theorem near_l0 (x1 x2 n p op dst src off imm : Int) (w : W5) (l : List Int) (hl : l = [] ∨ (∃ a, l = [a] ∧ 0 ≤ a ∧ a ≤ 10) ∨ (∃ a b, l = [a, b] ∧ 0 ≤ a ∧ a < b ∧ b ≤ 10)) (k : Nat) :
    ∃ j, k ≤ j ∧ stockadelaw02_InsnNear.l0 (k + 3) x1 x2 l n p 0 op dst src off imm w.1 w.2.1 w.2.2.1 w.2.2.2.1 w.2.2.2.2 = stockadelaw02_InsnNear.l0 (j + 1) x1 x2 l n p l.length op dst src off imm w.1 w.2.1 w.2.2.1 w.2.2.2.1 w.2.2.2.2 := by
  have w1 : wrap64 (0 + 1) = 1 := by decide +kernel
  have w2 : wrap64 (1 + 1) = 2 := by decide +kernel
  have w3 : wrap64 (1 - 1) = 0 := by decide +kernel
  rcases hl with rfl | ⟨a, rfl, a0, a1⟩ | ⟨a, b, rfl, a0, a1, a2⟩
  · exact ⟨k + 2, by omega, rfl⟩
  · refine ⟨k + 1, by omega, ?_⟩
    have r0 : rd ([a] : List Int) 0 = a := rfl
    rw [show k + 3 = (k + 2) + 1 by omega, stockadelaw02_InsnNear.l0, if_pos (by simp), if_pos (by omega), r0, if_neg (by omega), if_neg (by omega), if_neg (by omega), w1]
    rfl
  · refine ⟨k, by omega, ?_⟩
    have r0 : rd ([a, b] : List Int) 0 = a := rfl
    have r1 : rd ([a, b] : List Int) 1 = b := rfl
    rw [show k + 3 = (k + 2) + 1 by omega, stockadelaw02_InsnNear.l0, if_pos (by simp), if_pos (by omega), r0, if_neg (by omega), if_neg (by omega), if_neg (by omega), w1,
      show k + 2 = (k + 1) + 1 by omega, stockadelaw02_InsnNear.l0, if_pos (by simp), if_pos (by omega), r1, if_neg (by omega), if_neg (by omega), if_pos (by omega), w3, if_pos (by omega), if_pos (by simp), r0, if_neg (by omega), w2]
    rfl
theorem near_j2 {op dst src off imm x2 : Int} (k : Nat) (n p : Int) (h0 : 0 ≤ op) (h1 : op ≤ 255) (s0 : 0 ≤ src) (s1 : src ≤ 255) (i0 : -2147483648 ≤ x2) (i1 : x2 ≤ 2147483647)
    (hk : (kindV op src imm).1 ≠ 0) (n0 : -1 ≤ n) (n1 : n < 10) (p0 : 1 ≤ p) (p1 : p ≤ 2) :
    ((insn_Of.f (k + 4) op dst src off x2).bind fun bt623 => (if bt623.2.2.2.2.2 = 0 then (if (kindV op src imm).1 = 2 then (if n ≥ (-1) then (if n < 10 then (if p ≥ 1 then (if p ≤ 2 then ((stockadelaw02_wakes.f (k + 4)).bind fun t629 => (some t629)) else (some false)) else (some false)) else (some false)) else (some false)) else (if (bt623.1 == (kindV op src imm).1 && (bt623.2.1 == (kindV op src imm).2.1 && (bt623.2.2.1 == (kindV op src imm).2.2.1 && (bt623.2.2.2.1 == (kindV op src imm).2.2.2.1 && (bt623.2.2.2.2.1 == (kindV op src imm).2.2.2.2))))) = true then (if n ≥ (-1) then (if n < 10 then (if p ≥ 1 then (if p ≤ 2 then ((stockadelaw02_wakes.f (k + 4)).bind fun t630 => (some t630)) else (some false)) else (some false)) else (some false)) else (some false)) else (some false))) else (if n ≥ (-1) then (if n < 10 then (if p ≥ 1 then (if p ≤ 2 then ((stockadelaw02_wakes.f (k + 4)).bind fun t631 => (some t631)) else (some false)) else (some false)) else (some false)) else (some false)))) = some true := by
  rw [Of_eq k h0 h1 s0 s1 i0 i1, Option.bind_some, wakes_eq]
  simp only [if_pos n0, if_pos n1, if_pos p0, if_pos p1, Option.bind_some, ge_iff_le]
  by_cases he : (ofV op dst src off x2).2.2.2.2.2 = 0
  · rw [if_pos he]
    by_cases c2 : (kindV op src imm).1 = 2
    · rw [if_pos c2]
    · rw [if_neg c2, (of_ok he).1]
      have hx : kindV op src x2 = kindV op src imm := by
        by_cases c24 : op = 24
        · subst c24; rw [k24, k24 src imm]
        by_cases c215 : op = 215
        · subst c215
          exfalso
          have : ∀ i : Int, (kindV 215 src i).1 = 2 ∨ (kindV 215 src i).1 = 0 := by
            intro i; unfold kindV; rw [if_pos (by decide)]
            split
            · exact .inl rfl
            · rw [if_neg (by decide)]; exact .inr rfl
          rcases this imm with h | h
          · exact c2 h
          · exact hk h
        rw [kA c24 c215, kA c24 c215 src imm]
      rw [hx]
      unfold kOf
      simp
  · rw [if_neg he]
theorem near_off {op dst src off imm : Int} (y : Int) (he : (ofV op dst src off imm).2.2.2.2.2 = 0) :
    ((fieldsV (kindV op src imm)).2.2.2.1 = true → ofV op dst src y imm = kOf (kindV op src imm) 0) ∧ ((fieldsV (kindV op src imm)).2.2.2.1 = false → ((ofV op dst src y imm).2.2.2.2.2 = 0 ↔ y = 0)) := by
  obtain ⟨e, hk, b1, b2⟩ := of_ok he
  have b2' : ∀ z, ((fieldsV (kindV op src imm)).2.2.2.1 = false → z = 0) → ¬ bad2 (fieldsV (kindV op src imm)) (kindV op src imm).1 dst src z imm := by
    intro z hz h
    unfold bad2 at b2 h
    rcases h with h | h | h | h
    · exact b2 (.inl h)
    · exact b2 (.inr (.inl h))
    · exact h.2 (hz h.1)
    · exact b2 (.inr (.inr (.inr h)))
  constructor
  · intro hf; exact of_yes hk b1 (b2' y (fun h => by rw [hf] at h; exact absurd h (by decide)))
  · intro hf
    constructor
    · intro h
      obtain ⟨_, _, _, c2⟩ := of_ok h
      apply Classical.byContradiction
      intro hy
      exact c2 (.inr (.inr (.inl ⟨hf, hy⟩)))
    · intro hy
      rw [of_yes hk b1 (b2' y (fun _ => hy))]; rfl
theorem off_fields (w : W5) (h0 : w.1 ≠ 0) : (fieldsV w).2.2.2.1 = true ↔ (w.1 = 3 ∨ w.1 = 4 ∨ w.1 = 5 ∨ w.1 = 6 ∨ w.1 = 7) := by
  unfold fieldsV
  by_cases c1 : w.1 = 1
  · simp [c1]
  by_cases c2 : w.1 = 2
  · simp [c2]
  by_cases c3 : w.1 = 3
  · simp [c3]
  by_cases c4 : w.1 = 4
  · simp [c4]
  by_cases c5 : w.1 = 5
  · simp [c5]
  by_cases c6 : w.1 = 6
  · simp [c6]
  by_cases c7 : w.1 = 7
  · simp [c7]
  by_cases c8 : w.1 = 8
  · simp [c8]
  by_cases c10 : w.1 = 10
  · simp [c10]
  by_cases c11 : w.1 = 11
  · simp [c11]
  simp [c1, c2, c3, c4, c5, c6, c7, c8, c10, c11]
theorem near_j1 {op dst src off imm y x2 : Int} (k : Nat) (n p : Int) (h0 : 0 ≤ op) (h1 : op ≤ 255) (s0 : 0 ≤ src) (s1 : src ≤ 255) (i0 : -2147483648 ≤ x2) (i1 : x2 ≤ 2147483647)
    (he : (ofV op dst src off imm).2.2.2.2.2 = 0) (n0 : -1 ≤ n) (n1 : n < 10) (p0 : 1 ≤ p) (p1 : p ≤ 2) (b : Bool) (hb : b = true ↔ (fieldsV (kindV op src imm)).2.2.2.1 = true) :
    stockadelaw02_InsnNear.j1 (k + 6) y x2 n p (ofV op dst src y imm).2.2.2.2.2 b op dst src off imm (kindV op src imm).1 (kindV op src imm).2.1 (kindV op src imm).2.2.1 (kindV op src imm).2.2.2.1 (kindV op src imm).2.2.2.2
      (ofV op dst src y imm).1 (ofV op dst src y imm).2.1 (ofV op dst src y imm).2.2.1 (ofV op dst src y imm).2.2.2.1 (ofV op dst src y imm).2.2.2.2.1 = some true := by
  have hk := (of_ok he).2.1
  have hn := near_off y he
  rw [show k + 6 = (k + 5) + 1 by omega, stockadelaw02_InsnNear.j1]
  cases b
  · have hf : (fieldsV (kindV op src imm)).2.2.2.1 = false := by
      cases h : (fieldsV (kindV op src imm)).2.2.2.1
      · rfl
      · exact absurd (hb.2 h) (by decide)
    have hz := hn.2 hf
    have e : ((ofV op dst src y imm).2.2.2.2.2 == 0) = (y == 0) := by rw [Bool.eq_iff_iff, beq_iff_eq, beq_iff_eq]; exact hz
    rw [if_neg (by decide), if_neg (by rw [e]; simp)]
    rw [show k + 5 = (k + 1) + 4 by omega]
    exact near_j2 (k + 1) n p h0 h1 s0 s1 i0 i1 hk n0 n1 p0 p1
  · rw [if_pos rfl, hn.1 (hb.1 rfl)]
    unfold kOf
    dsimp only
    rw [if_pos rfl, show k + 5 = (k + 4) + 1 by omega, stockadelaw02_InsnNear.j2, if_neg (by simp)]
    exact near_j2 k n p h0 h1 s0 s1 i0 i1 hk n0 n1 p0 p1
theorem InsnNear (a0_0 : Int) (a0_1 : Int) (a0_2 : Int) (a0_3 : Int) (a0_4 : Int) (a1 : Int) (a2 : Int) (w0_0 : (Lit.int .u8 a0_0).wf = true) (w0_1 : (Lit.int .u8 a0_1).wf = true) (w0_2 : (Lit.int .u8 a0_2).wf = true) (w0_3 : (Lit.int .i16 a0_3).wf = true) (w0_4 : (Lit.int .i32 a0_4).wf = true) (w1 : (Lit.int .i16 a1).wf = true) (w2 : (Lit.int .i32 a2).wf = true) : ∃ k, P.stockadelaw02_InsnNear.f k a0_0 a0_1 a0_2 a0_3 a0_4 a1 a2 = some true := by
  obtain ⟨h0, h1⟩ := wf_u8 w0_0
  obtain ⟨d0, d1⟩ := wf_u8 w0_1
  obtain ⟨s0, s1⟩ := wf_u8 w0_2
  obtain ⟨i0, i1⟩ := wf_i32 w0_4
  obtain ⟨j0, j1⟩ := wf_i32 w2
  refine ⟨100 + 3, ?_⟩
  unfold stockadelaw02_InsnNear.f
  rw [show (100 + 3 : Nat) = 99 + 4 from rfl, Of_eq 99 h0 h1 s0 s1 i0 i1, Reads_eq 99 h0 h1 d0 d1 s0 s1 i0 i1, Writes_eq 99 h0 h1 d0 d1 s0 s1 i0 i1, Places_eq 99 h0 h1 s0 s1 i0 i1, wakes_eq]
  simp only [Option.bind_some]
  by_cases he : (ofV a0_0 a0_1 a0_2 a0_3 a0_4).2.2.2.2.2 = 0
  · simp only [if_pos he]
    obtain ⟨e, hk, b1, b2⟩ := of_ok he
    have hn : -1 ≤ writesV (kindV a0_0 a0_2 a0_4) a0_1 ∧ writesV (kindV a0_0 a0_2 a0_4) a0_1 < 10 := by
      unfold writesV
      split
      · omega
      · split
        · rename_i h
          have := wr_dst _ h
          have c1 : ¬ a0_1 > 10 := fun c => b1 (.inl ⟨this, c⟩)
          have c2 : ¬ a0_1 = 10 := fun c => b1 (.inr (.inl ⟨h, c⟩))
          omega
        · omega
    have hp : 1 ≤ placesV (kindV a0_0 a0_2 a0_4) ∧ placesV (kindV a0_0 a0_2 a0_4) ≤ 2 := by unfold placesV; split <;> omega
    rw [e]
    unfold kOf
    dsimp only
    obtain ⟨j, hj, hl⟩ := near_l0 a1 a2 (writesV (kindV a0_0 a0_2 a0_4) a0_1) (placesV (kindV a0_0 a0_2 a0_4)) a0_0 a0_1 a0_2 a0_3 a0_4 (kindV a0_0 a0_2 a0_4) _ (reads_ok d0 s0 b1) 100
    rw [show (99 + 4 : Nat) = 100 + 3 from rfl, hl, stockadelaw02_InsnNear.l0, if_neg (by omega), show j = (j - 4) + 4 by omega, Of_eq (j - 4) h0 h1 s0 s1 i0 i1, Option.bind_some]
    have hof := off_fields (kindV a0_0 a0_2 a0_4) hk
    have key := fun b hb => near_j1 (y := a1) (x2 := a2) (off := a0_3) (j - 4 - 2) (writesV (kindV a0_0 a0_2 a0_4) a0_1) (placesV (kindV a0_0 a0_2 a0_4)) h0 h1 s0 s1 j0 j1 he hn.1 hn.2 hp.1 hp.2 b hb
    rw [show j - 4 - 2 + 6 = j - 4 + 4 by omega] at key
    by_cases c3 : (kindV a0_0 a0_2 a0_4).1 = 3
    · rw [if_pos c3]; exact key true ⟨fun _ => hof.2 (by omega), fun _ => rfl⟩
    rw [if_neg c3]
    by_cases c4 : (kindV a0_0 a0_2 a0_4).1 = 4
    · rw [if_pos c4]; exact key true ⟨fun _ => hof.2 (by omega), fun _ => rfl⟩
    rw [if_neg c4]
    by_cases c5 : (kindV a0_0 a0_2 a0_4).1 = 5
    · rw [if_pos c5]; exact key true ⟨fun _ => hof.2 (by omega), fun _ => rfl⟩
    rw [if_neg c5]
    by_cases c6 : (kindV a0_0 a0_2 a0_4).1 = 6
    · rw [if_pos c6]; exact key true ⟨fun _ => hof.2 (by omega), fun _ => rfl⟩
    rw [if_neg c6]
    exact key _ (by rw [hof, beq_iff_eq]; omega)
  · obtain ⟨r, hr, hr0⟩ := of_no he
    simp only [hr] at he ⊢
    simp [he]
end Go.Proofs.YtkojjjdeacdabaaDoor.Pure
