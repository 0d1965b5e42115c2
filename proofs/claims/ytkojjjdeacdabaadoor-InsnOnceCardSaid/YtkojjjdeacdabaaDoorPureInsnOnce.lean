/- Chapter 02: the law InsnOnce in plain terms. -/
import Derived.Test.YtkojjjdeacdabaaDoorPx17
import Derived.Test.YtkojjjdeacdabaaDoorIh
import Derived.Test.YtkojjjdeacdabaaDoorIj
import Derived.Test.YtkojjjdeacdabaaDoorIf
namespace Go.Proofs.YtkojjjdeacdabaaDoor.Pure
open Go.RowKit Go.Proofs.YtkojjjdeacdabaaDoorW.PrintWords Go.Proofs.YtkojjjdeacdabaaDoorW.PrintLast Go.Proofs.YtkojjjdeacdabaaDoorW.PrintMore Go.Proofs.YtkojjjdeacdabaaDoor.P
set_option linter.unusedVariables false
set_option linter.unusedSimpArgs false

theorem made {op src imm : Int} (h0 : 0 ≤ op) (h1 : op ≤ 255) (s0 : 0 ≤ src) (hk : (kindV op src imm).1 ≠ 0) :
    opM (kindV op src imm) = op ∧ srcM (kindV op src imm) src = src ∧ immM (kindV op src imm) imm = imm := by
  by_cases c1 : op = 24
  · subst c1
    rw [k24] at hk ⊢
    by_cases e0 : src = 0
    · subst e0
      refine ⟨by decide +kernel, by decide +kernel, ?_⟩
      unfold immM; rw [if_neg (by decide +kernel)]
    by_cases e1 : src = 1
    · subst e1
      refine ⟨by decide +kernel, by decide +kernel, ?_⟩
      unfold immM; rw [if_neg (by decide +kernel)]
    · exact absurd (show (kindV 24 src 0).1 = 0 by unfold kindV; rw [if_neg (by decide), if_neg (by decide), if_pos (by decide), if_neg (by omega)]; rfl) hk
  by_cases c2 : op = 215
  · subst c2
    rw [k215] at hk ⊢
    by_cases e0 : imm = 16
    · subst e0; exact ⟨by decide +kernel, by unfold srcM; rw [if_neg (by decide +kernel)], by decide +kernel⟩
    by_cases e1 : imm = 32
    · subst e1; exact ⟨by decide +kernel, by unfold srcM; rw [if_neg (by decide +kernel)], by decide +kernel⟩
    by_cases e2 : imm = 64
    · subst e2; exact ⟨by decide +kernel, by unfold srcM; rw [if_neg (by decide +kernel)], by decide +kernel⟩
    · exact absurd (show (kindV 215 0 imm).1 = 0 by unfold kindV; simp [e0, e1, e2, zeroV]) hk
  rw [kA c1 c2] at hk ⊢
  have h : ∀ n : Fin 256, (n.val : Int) ≠ 24 → (n.val : Int) ≠ 215 → (kindV (n.val : Int) 0 0).1 ≠ 0 → opM (kindV (n.val : Int) 0 0) = (n.val : Int) ∧ (kindV (n.val : Int) 0 0).1 < 10 ∧ (kindV (n.val : Int) 0 0).1 ≠ 2 := by decide +kernel
  obtain ⟨n, rfl⟩ := Int.eq_ofNat_of_zero_le h0
  obtain ⟨a, b, c⟩ := h ⟨n, by omega⟩ c1 c2 hk
  dsimp only at a b c
  exact ⟨a, by unfold srcM; rw [if_neg (by omega)], by unfold immM; rw [if_neg c]⟩
theorem ne_zero {w : W5} (h : w.1 ≠ 0) : w ≠ zeroV := by rintro rfl; exact h rfl
theorem kind_zero {op src imm : Int} (h0 : 0 ≤ op) (s0 : 0 ≤ src) (h : (kindV op src imm).1 = 0) : kindV op src imm = zeroV := by
  have hz : kindV op src imm = zeroV ∨ (kindV op src imm).1 ≠ 0 := by
    unfold kindV jumpV classV
    repeat' split
    all_goals first | exact .inl rfl | (right; simp; done) | (right; simp; omega)
  exact hz.resolve_right (fun c => c h)
/-- What is made of what an instruction is, is the instruction. -/
theorem once {op dst src off imm : Int} (h0 : 0 ≤ op) (h1 : op ≤ 255) (s0 : 0 ≤ src) (he : (ofV op dst src off imm).2.2.2.2.2 = 0) :
    finish (kindV op src imm) (opM (kindV op src imm)) dst (srcM (kindV op src imm) src) off (immM (kindV op src imm) imm) = (op, dst, src, off, imm, 0) := by
  obtain ⟨e, hk, -, -⟩ := of_ok he
  obtain ⟨m1, m2, m3⟩ := made h0 h1 s0 hk
  unfold finish
  rw [m1, m2, m3, if_neg (by rintro (h | h); exact ne_zero hk h; exact h rfl), if_pos he]
theorem bne_eq {α : Type} [DecidableEq α] [BEq α] [LawfulBEq α] (a : α) : (!(a == a)) = false := by simp
theorem once_l0 (w : W5) {op dst src off imm : Int} (k : Nat) (hs : B src) (i0 : -2147483648 ≤ imm) (i1 : imm ≤ 2147483647) :
    stockadelaw02_InsnOnce.j0 (k + 21) w.1 w.2.1 w.2.2.1 w.2.2.2.1 w.2.2.2.2 op dst src off imm = some true := by
  have hW := wakes_eq (k + 16)
  rw [show k + 16 + 4 = k + 20 by omega] at hW
  rw [show k + 21 = (k + 20) + 1 by omega, stockadelaw02_InsnOnce.j0, Make_eq w k hs i0 i1, Option.bind_some, hW]
  have hO := B_opM w
  have hS := B_srcM w hs
  have hI : -2147483648 ≤ immM w imm ∧ immM w imm ≤ 2147483647 := by
    unfold immM; split
    · unfold wrap32; omega
    · exact ⟨i0, i1⟩
  unfold finish
  by_cases c1 : w = zeroV ∨ kindV (opM w) (srcM w src) (immM w imm) ≠ w
  · rw [if_pos c1]; rfl
  · rw [if_neg c1]
    have hz : w ≠ zeroV := fun h => c1 (.inl h)
    have hk : kindV (opM w) (srcM w src) (immM w imm) = w := Classical.byContradiction fun h => c1 (.inr h)
    by_cases c2 : (ofV (opM w) dst (srcM w src) off (immM w imm)).2.2.2.2.2 = 0
    · rw [if_pos c2]
      dsimp only
      rw [if_pos rfl, show k + 20 = (k + 16) + 4 by omega, Of_eq (k + 16) hO.1 hO.2 hS.1 hS.2 hI.1 hI.2, Option.bind_some, (of_ok c2).1, hk]
      unfold kOf
      simp
    · rw [if_neg c2]
      rcases of_cases (opM w) dst (srcM w src) off (immM w imm) with h | h | h | h
      · exact absurd ((kind_zero hO.1 hS.1 h.2).symm.trans hk).symm hz
      · rw [h.1]; rfl
      · rw [h.1]; rfl
      · rw [h.1] at c2; exact absurd rfl c2
theorem InsnOnce (a0_0 : Int) (a0_1 : Int) (a0_2 : Int) (a0_3 : Int) (a0_4 : Int) (a1_0 : Int) (a1_1 : Int) (a1_2 : Int) (a1_3 : Bool) (a1_4 : Bool) (a2_0 : Int) (a2_1 : Int) (a2_2 : Int) (a2_3 : Int) (a2_4 : Int) (w0_0 : (Lit.int .u8 a0_0).wf = true) (w0_1 : (Lit.int .u8 a0_1).wf = true) (w0_2 : (Lit.int .u8 a0_2).wf = true) (w0_3 : (Lit.int .i16 a0_3).wf = true) (w0_4 : (Lit.int .i32 a0_4).wf = true) (w1_0 : (Lit.int .i64 a1_0).wf = true) (w1_1 : (Lit.int .i64 a1_1).wf = true) (w1_2 : (Lit.int .i64 a1_2).wf = true) (w2_0 : (Lit.int .u8 a2_0).wf = true) (w2_1 : (Lit.int .u8 a2_1).wf = true) (w2_2 : (Lit.int .u8 a2_2).wf = true) (w2_3 : (Lit.int .i16 a2_3).wf = true) (w2_4 : (Lit.int .i32 a2_4).wf = true) : ∃ k, P.stockadelaw02_InsnOnce.f k a0_0 a0_1 a0_2 a0_3 a0_4 a1_0 a1_1 a1_2 a1_3 a1_4 a2_0 a2_1 a2_2 a2_3 a2_4 = some true := by
  obtain ⟨h0, h1⟩ := wf_u8 w0_0
  obtain ⟨s0, s1⟩ := wf_u8 w0_2
  obtain ⟨i0, i1⟩ := wf_i32 w0_4
  obtain ⟨t0, t1⟩ := wf_u8 w2_2
  obtain ⟨j0, j1⟩ := wf_i32 w2_4
  have hl := once_l0 (a1_0, a1_1, a1_2, a1_3, a1_4) (op := a2_0) (dst := a2_1) (off := a2_3) 100 ⟨t0, t1⟩ j0 j1
  dsimp only at hl
  refine ⟨100 + 21, ?_⟩
  unfold stockadelaw02_InsnOnce.f
  rw [hl, show (100 + 21 : Nat) = 117 + 4 from rfl, Of_eq 117 h0 h1 s0 s1 i0 i1, Option.bind_some]
  by_cases he : (ofV a0_0 a0_1 a0_2 a0_3 a0_4).2.2.2.2.2 = 0
  · have hM := Make_eq (kindV a0_0 a0_2 a0_4) (op := a0_0) (dst := a0_1) (off := a0_3) 101 ⟨s0, s1⟩ i0 i1
    have hN := Make_eq (kindV a0_0 a0_2 a0_4) (op := 0) (dst := a0_1) (off := a0_3) 101 ⟨s0, s1⟩ i0 i1
    rw [once h0 h1 s0 he] at hM hN
    rw [if_pos he, (of_ok he).1]
    unfold kOf
    dsimp only
    rw [show (117 + 4 : Nat) = 101 + 20 from rfl, hM, hN]
    simp
  · rw [if_neg he]
end Go.Proofs.YtkojjjdeacdabaaDoor.Pure
