/- Chapter 02: the law InsnBytes in plain terms. -/
import Derived.Test.YtkojjjdeacdabaaDoorPx13
import Derived.Test.YtkojjjdeacdabaaDoorPureInsnReads
import Derived.Test.YtkojjjdeacdabaaDoorIg
namespace Go.Proofs.YtkojjjdeacdabaaDoor.Pure
open Go.RowKit Go.Proofs.YtkojjjdeacdabaaDoorW.PrintWords Go.Proofs.YtkojjjdeacdabaaDoorW.PrintLast Go.Proofs.YtkojjjdeacdabaaDoorW.PrintMore Go.Proofs.YtkojjjdeacdabaaDoor.P
set_option linter.unusedVariables false
set_option linter.unusedSimpArgs false

theorem wf_i16 {a : Int} (h : (Lit.int .i16 a).wf = true) : -32768 ≤ a ∧ a ≤ 32767 := by
  simp only [Lit.wf, Bool.and_eq_true, decide_eq_true_eq] at h; exact ⟨h.1, h.2⟩
theorem fill_eq (x3 op dst src off imm : Int) : ∀ (n i : Nat) (l : List Int) (k : Nat), l.length < 4611686018427387904 → l.length - i = n → i ≤ l.length →
    stockadelaw02_InsnBytes.l1 (k + n + 1) x3 l i op dst src off imm = stockadelaw02_InsnBytes.l0 k (wrap64 (x3 + 1)) op dst src off imm
  | 0, i, l, k, _, hn, hi => by
    rw [stockadelaw02_InsnBytes.l1, if_neg (by omega)]
  | n + 1, i, l, k, hl, hn, hi => by
    have ew : wrap64 ((i : Int) + 1) = ((i + 1 : Nat) : Int) := by rw [fitW (by omega) (by omega)]; omega
    have ih := fill_eq x3 op dst src off imm n (i + 1) (l.set (i : Int).toNat 90) k (by simpa using hl) (by simp; omega) (by simp; omega)
    rw [stockadelaw02_InsnBytes.l1, if_pos (by omega), if_pos (by omega), ew, show k + (n + 1) = k + n + 1 by omega, ih]
theorem turn_eq {op dst src off imm : Int} (x3 : Int) (hx : x3 < 2) (k : Nat) (d0 : 0 ≤ dst) (s0 : 0 ≤ src) (o0 : -32768 ≤ off) (o1 : off ≤ 32767) (i0 : -2147483648 ≤ imm) (i1 : imm ≤ 2147483647) :
    ∃ m, k ≤ m ∧ stockadelaw02_InsnBytes.l0 (k + 20) x3 op dst src off imm = stockadelaw02_InsnBytes.l0 m (wrap64 (x3 + 1)) op dst src off imm := by
  have hl : (encV op dst src off imm).1.length = 0 ∨ (encV op dst src off imm).1.length = 8 := by unfold encV; split <;> simp
  rw [show k + 20 = (k + 19) + 1 by omega, stockadelaw02_InsnBytes.l0, if_pos hx, Encode_eq d0 s0 o0 o1 i0 i1, Option.bind_some, show k + 19 = (k + 18) + 1 by omega, refEncode_eq (k + 18) d0 s0 o0 o1 i0 i1, Option.bind_some, if_pos rfl,
    same_eq _ (by omega) _ (by omega), Option.bind_some, stockadelaw02_InsnBytes.j1, if_neg (by simp)]
  rcases hl with h | h
  · exact ⟨k + 17, by omega, by rw [show k + 18 = (k + 17) + 0 + 1 by omega]; exact fill_eq x3 op dst src off imm 0 0 _ (k + 17) (by omega) (by omega) (by omega)⟩
  · exact ⟨k + 9, by omega, by rw [show k + 18 = (k + 9) + 8 + 1 by omega]; exact fill_eq x3 op dst src off imm 8 0 _ (k + 9) (by omega) (by omega) (by omega)⟩
theorem InsnBytes (a0_0 : Int) (a0_1 : Int) (a0_2 : Int) (a0_3 : Int) (a0_4 : Int) (w0_0 : (Lit.int .u8 a0_0).wf = true) (w0_1 : (Lit.int .u8 a0_1).wf = true) (w0_2 : (Lit.int .u8 a0_2).wf = true) (w0_3 : (Lit.int .i16 a0_3).wf = true) (w0_4 : (Lit.int .i32 a0_4).wf = true) : ∃ k, P.stockadelaw02_InsnBytes.f k a0_0 a0_1 a0_2 a0_3 a0_4 = some true := by
  obtain ⟨d0, d1⟩ := wf_u8 w0_1
  obtain ⟨s0, s1⟩ := wf_u8 w0_2
  obtain ⟨o0, o1⟩ := wf_i16 w0_3
  obtain ⟨i0, i1⟩ := wf_i32 w0_4
  refine ⟨60 + 20, ?_⟩
  unfold stockadelaw02_InsnBytes.f
  obtain ⟨m, hm, e⟩ := turn_eq (op := a0_0) 0 (by omega) 60 d0 s0 o0 o1 i0 i1
  rw [e, show wrap64 (0 + 1) = 1 by decide +kernel, show m = (m - 20) + 20 by omega]
  obtain ⟨m2, hm2, e2⟩ := turn_eq (op := a0_0) 1 (by omega) (m - 20) d0 s0 o0 o1 i0 i1
  rw [e2, show wrap64 (1 + 1) = 2 by decide +kernel, show m2 = (m2 - 5) + 4 + 1 by omega, stockadelaw02_InsnBytes.l0, if_neg (by omega), wakes_eq]
  rfl
end Go.Proofs.YtkojjjdeacdabaaDoor.Pure
