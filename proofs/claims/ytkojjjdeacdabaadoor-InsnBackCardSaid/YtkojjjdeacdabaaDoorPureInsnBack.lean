/- Chapter 02: the law InsnBack in plain terms. -/
import Derived.Test.YtkojjjdeacdabaaDoorBk
import Derived.Test.YtkojjjdeacdabaaDoorPureInsnBytes
namespace Go.Proofs.YtkojjjdeacdabaaDoor.Pure
open Go.RowKit Go.Proofs.YtkojjjdeacdabaaDoorW.PrintWords Go.Proofs.YtkojjjdeacdabaaDoorW.PrintLast Go.Proofs.YtkojjjdeacdabaaDoorW.PrintMore Go.Proofs.YtkojjjdeacdabaaDoor.P
set_option linter.unusedVariables false
set_option linter.unusedSimpArgs false

theorem decV8 (b0 b1 b2 b3 b4 b5 b6 b7 : Int) : decV [b0, b1, b2, b3, b4, b5, b6, b7] = (b0, b1 % 16, b1 / 16, s16 (b2 + 256 * b3), s32 (b4 + 256 * b5 + 65536 * b6 + 16777216 * b7), 0) := rfl
theorem InsnBack (a0_0 a0_1 a0_2 a0_3 a0_4 b0 b1 b2 b3 b4 b5 b6 b7 : Int) (w0_0 : (Lit.int .u8 a0_0).wf = true) (w0_1 : (Lit.int .u8 a0_1).wf = true) (w0_2 : (Lit.int .u8 a0_2).wf = true) (w0_3 : (Lit.int .i16 a0_3).wf = true) (w0_4 : (Lit.int .i32 a0_4).wf = true) (v0 : (Lit.int .u8 b0).wf = true) (v1 : (Lit.int .u8 b1).wf = true) (v2 : (Lit.int .u8 b2).wf = true) (v3 : (Lit.int .u8 b3).wf = true) (v4 : (Lit.int .u8 b4).wf = true) (v5 : (Lit.int .u8 b5).wf = true) (v6 : (Lit.int .u8 b6).wf = true) (v7 : (Lit.int .u8 b7).wf = true) :
    ∃ (k : Nat) (k0 k1 k2 k3 k4 : Int), insn_Decode.f [b0, b1, b2, b3, b4, b5, b6, b7] = some (k0, k1, k2, k3, k4, 0) ∧ insn_Encode.f k0 k1 k2 k3 k4 = some ([b0, b1, b2, b3, b4, b5, b6, b7], 0) ∧ stockadelaw02_same.f k [b0, b1, b2, b3, b4, b5, b6, b7] [b0, b1, b2, b3, b4, b5, b6, b7] = some true ∧ stockadelaw02_wakes.f k = some true ∧
      ((∃ l : List Int, insn_Encode.f a0_0 a0_1 a0_2 a0_3 a0_4 = some (l, 0) ∧ a0_1 < 16 ∧ a0_2 < 16 ∧ insn_Decode.f l = some (a0_0, a0_1, a0_2, a0_3, a0_4, 0)) ∨ (∃ l : List Int, insn_Encode.f a0_0 a0_1 a0_2 a0_3 a0_4 = some (l, 21) ∧ (¬ a0_1 < 16 ∨ a0_1 < 16 ∧ ¬ a0_2 < 16))) := by
  have B0 := wf_u8 v0; have B1 := wf_u8 v1; have B2 := wf_u8 v2; have B3 := wf_u8 v3; have B4 := wf_u8 v4; have B5 := wf_u8 v5; have B6 := wf_u8 v6; have B7 := wf_u8 v7
  obtain ⟨h0, h1⟩ := wf_u8 w0_0
  obtain ⟨d0, d1⟩ := wf_u8 w0_1
  obtain ⟨s0, s1⟩ := wf_u8 w0_2
  obtain ⟨o0, o1⟩ := wf_i16 w0_3
  obtain ⟨i0, i1⟩ := wf_i32 w0_4
  have hb : Bytes [b0, b1, b2, b3, b4, b5, b6, b7] := by
    intro x hx
    simp only [List.mem_cons, List.not_mem_nil, or_false] at hx
    rcases hx with rfl | rfl | rfl | rfl | rfl | rfl | rfl | rfl <;> assumption
  have hn : b2 + 256 * b3 = (b2 + 256 * b3) := rfl
  have m3 : -32768 ≤ s16 (b2 + 256 * b3) ∧ s16 (b2 + 256 * b3) ≤ 32767 ∧ s16 (b2 + 256 * b3) % 256 = b2 ∧ s16 (b2 + 256 * b3) / 256 % 256 = b3 := by
    unfold s16; split <;> refine ⟨?_, ?_, ?_, ?_⟩ <;> omega
  have m4 : -2147483648 ≤ s32 (b4 + 256 * b5 + 65536 * b6 + 16777216 * b7) ∧ s32 (b4 + 256 * b5 + 65536 * b6 + 16777216 * b7) ≤ 2147483647 ∧ s32 (b4 + 256 * b5 + 65536 * b6 + 16777216 * b7) % 256 = b4 ∧ s32 (b4 + 256 * b5 + 65536 * b6 + 16777216 * b7) / 256 % 256 = b5 ∧ s32 (b4 + 256 * b5 + 65536 * b6 + 16777216 * b7) / 65536 % 256 = b6 ∧ s32 (b4 + 256 * b5 + 65536 * b6 + 16777216 * b7) / 16777216 % 256 = b7 := by
    unfold s32; split <;> refine ⟨?_, ?_, ?_, ?_, ?_, ?_⟩ <;> omega
  refine ⟨20, b0, b1 % 16, b1 / 16, s16 (b2 + 256 * b3), s32 (b4 + 256 * b5 + 65536 * b6 + 16777216 * b7), ?_, ?_, ?_, ?_, ?_⟩
  · rw [Decode_eq hb, decV8]
  · rw [Encode_eq (by omega) (by omega) m3.1 m3.2.1 m4.1 m4.2.1]
    unfold encV
    rw [if_neg (by omega), m3.2.2.1, m3.2.2.2, m4.2.2.1, m4.2.2.2.1, m4.2.2.2.2.1, m4.2.2.2.2.2, show b1 % 16 + 16 * (b1 / 16) = b1 by omega]
  · exact same_eq _ (by simp) 20 (by simp)
  · exact wakes_eq 16
  · by_cases c : a0_1 > 15 ∨ a0_2 > 15
    · refine .inr ⟨[], ?_, by omega⟩
      rw [Encode_eq d0 s0 o0 o1 i0 i1]; unfold encV; rw [if_pos c]
    · refine .inl ⟨_, by rw [Encode_eq d0 s0 o0 o1 i0 i1]; unfold encV; rw [if_neg c], by omega, by omega, ?_⟩
      have hl : Bytes [a0_0, a0_1 + 16 * a0_2, a0_3 % 256, a0_3 / 256 % 256, a0_4 % 256, a0_4 / 256 % 256, a0_4 / 65536 % 256, a0_4 / 16777216 % 256] := by
        intro x hx
        simp only [List.mem_cons, List.not_mem_nil, or_false] at hx
        rcases hx with rfl | rfl | rfl | rfl | rfl | rfl | rfl | rfl <;> omega
      rw [Decode_eq hl, decV8]
      have e3 : s16 (a0_3 % 256 + 256 * (a0_3 / 256 % 256)) = a0_3 := by unfold s16; split <;> omega
      have e4 : s32 (a0_4 % 256 + 256 * (a0_4 / 256 % 256) + 65536 * (a0_4 / 65536 % 256) + 16777216 * (a0_4 / 16777216 % 256)) = a0_4 := by unfold s32; split <;> omega
      rw [e3, e4, show (a0_1 + 16 * a0_2) % 16 = a0_1 by omega, show (a0_1 + 16 * a0_2) / 16 = a0_2 by omega]
end Go.Proofs.YtkojjjdeacdabaaDoor.Pure
