/- Chapter 02: the law InsnUses in plain terms. -/
import Derived.Test.YtkojjjdeacdabaaDoorIl
import Derived.Test.YtkojjjdeacdabaaDoorIf
namespace Go.Proofs.YtkojjjdeacdabaaDoor.Pure
open Go.RowKit Go.Proofs.YtkojjjdeacdabaaDoorW.PrintWords Go.Proofs.YtkojjjdeacdabaaDoorW.PrintLast Go.Proofs.YtkojjjdeacdabaaDoorW.PrintMore Go.Proofs.YtkojjjdeacdabaaDoor.P
set_option linter.unusedVariables false
set_option linter.unusedSimpArgs false

theorem uses_l0 (op dst src off imm : Int) : ∀ (n i : Nat) (l : List Int) (k : Nat), l.length < 1000 → l.length - i = n → i ≤ l.length →
    ∃ t, stockadelaw02_InsnUses.l0 (k + n + 1) l l i op dst src off imm = t ∧ stockadelaw02_InsnUses.l0 (k + 1) l l l.length op dst src off imm = t
  | 0, i, l, k, _, hn, hi => by
    rw [show (i : Int) = (l.length : Int) by omega]; exact ⟨_, rfl, rfl⟩
  | n + 1, i, l, k, hl, hn, hi => by
    have ew : wrap64 ((i : Int) + 1) = ((i + 1 : Nat) : Int) := by rw [fitW (by omega) (by omega)]; omega
    obtain ⟨t, h1, h2⟩ := uses_l0 op dst src off imm n (i + 1) l k hl (by omega) (by omega)
    refine ⟨t, ?_, h2⟩
    rw [stockadelaw02_InsnUses.l0, if_pos (by omega), if_pos (by omega), if_pos (by omega), if_pos rfl, ew, show k + (n + 1) = k + n + 1 by omega, h1]
theorem reads_len (w : W5) (dst src : Int) : (readsV w dst src).length ≤ 2 := by
  unfold readsV
  repeat' split
  all_goals simp
theorem InsnUses (a0_0 : Int) (a0_1 : Int) (a0_2 : Int) (a0_3 : Int) (a0_4 : Int) (w0_0 : (Lit.int .u8 a0_0).wf = true) (w0_1 : (Lit.int .u8 a0_1).wf = true) (w0_2 : (Lit.int .u8 a0_2).wf = true) (w0_3 : (Lit.int .i16 a0_3).wf = true) (w0_4 : (Lit.int .i32 a0_4).wf = true) : ∃ k, P.stockadelaw02_InsnUses.f k a0_0 a0_1 a0_2 a0_3 a0_4 = some true := by
  obtain ⟨h0, h1⟩ := wf_u8 w0_0
  obtain ⟨d0, d1⟩ := wf_u8 w0_1
  obtain ⟨s0, s1⟩ := wf_u8 w0_2
  obtain ⟨i0, i1⟩ := wf_i32 w0_4
  generalize hl : (if (ofV a0_0 a0_1 a0_2 a0_3 a0_4).2.2.2.2.2 = 0 then readsV (kindV a0_0 a0_2 a0_4) a0_1 a0_2 else []) = l
  have hlen : l.length ≤ 2 := by
    rw [← hl]; split
    · exact reads_len _ _ _
    · simp
  refine ⟨300 + l.length + 1, ?_⟩
  unfold stockadelaw02_InsnUses.f
  obtain ⟨t, e1, e2⟩ := uses_l0 a0_0 a0_1 a0_2 a0_3 a0_4 l.length 0 l 300 (by omega) (by omega) (by omega)
  rw [show ((0 : Nat) : Int) = 0 from rfl] at e1
  have r1 := Reads_eq (off := a0_3) (300 + l.length + 1 - 4) h0 h1 d0 d1 s0 s1 i0 i1
  have r2 := refReads_eq (off := a0_3) (300 + l.length + 1 - 200) h0 h1 d0 d1 s0 s1 i0 i1
  rw [show 300 + l.length + 1 - 4 + 4 = 300 + l.length + 1 by omega, hl] at r1
  rw [show 300 + l.length + 1 - 200 + 200 = 300 + l.length + 1 by omega, hl] at r2
  rw [r1, r2, Option.bind_some, Option.bind_some, if_pos rfl, e1, ← e2, stockadelaw02_InsnUses.l0, if_neg (by omega)]
  have w1 := Writes_eq (off := a0_3) 296 h0 h1 d0 d1 s0 s1 i0 i1
  have w2 := refWrites_eq (off := a0_3) 100 h0 h1 d0 d1 s0 s1 i0 i1
  have p1 := Places_eq (dst := a0_1) (off := a0_3) 296 h0 h1 s0 s1 i0 i1
  have p2 := refPlaces_eq (off := a0_3) 100 h0 h1 d0 s0 s1 i0 i1
  rw [show (296 + 4 : Nat) = 300 from rfl] at w1 p1
  rw [show (100 + 200 : Nat) = 300 from rfl] at w2 p2
  rw [w1, w2, p1, p2]
  simp only [Option.bind_some, if_true]
  rw [show (300 : Nat) = 296 + 4 from rfl, wakes_eq]
  rfl
end Go.Proofs.YtkojjjdeacdabaaDoor.Pure
