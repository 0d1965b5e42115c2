/- Chapter 02: Decode and Encode in plain terms. -/
import Derived.Test.YtkojjjdeacdabaaDoorPx13
import Derived.Test.YtkojjjdeacdabaaDoorIa
namespace Go.Proofs.YtkojjjdeacdabaaDoor.Pure
open Go.RowKit Go.Proofs.YtkojjjdeacdabaaDoorW.PrintWords Go.Proofs.YtkojjjdeacdabaaDoorW.PrintLast Go.Proofs.YtkojjjdeacdabaaDoorW.PrintMore Go.Proofs.YtkojjjdeacdabaaDoor.P
set_option linter.unusedVariables false
set_option linter.unusedSimpArgs false

theorem or_join (x y : Int) (i : Nat) (x0 : 0 ≤ x) (x1 : x.toNat < 2 ^ i) (y0 : 0 ≤ y) (y1 : y.toNat % 2 ^ i = 0) : ((x.toNat ||| y.toNat : Nat) : Int) = x + y := by
  rw [Nat.or_comm, nat_join i y.toNat x.toNat y1 x1]; omega
theorem or16 {x y : Int} (x0 : 0 ≤ x) (x1 : x < 256) (y0 : 0 ≤ y) (y1 : y < 65536) (h : y % 256 = 0) : Go.bits .or .u16 x y = x + y := by
  rw [u16_or x y x0 (by omega) y0 y1, or_join x y 8 x0 (by omega) y0 (by omega)]
theorem or32 {x y : Int} (i : Nat) (hi : i = 8 ∨ i = 16 ∨ i = 24) (x0 : 0 ≤ x) (x1 : x < 2 ^ i) (y0 : 0 ≤ y) (y1 : y < 4294967296) (h : y % 2 ^ i = 0) : Go.bits .or .u32 x y = x + y := by
  rcases hi with rfl | rfl | rfl
  · rw [u32_or x y x0 (by omega) y0 y1, or_join x y 8 x0 (by omega) y0 (by omega)]
  · rw [u32_or x y x0 (by omega) y0 y1, or_join x y 16 x0 (by omega) y0 (by omega)]
  · rw [u32_or x y x0 (by omega) y0 y1, or_join x y 24 x0 (by omega) y0 (by omega)]
theorem and15 {x : Int} (x0 : 0 ≤ x) (x1 : x ≤ 255) : Go.bits .and .u8 x 15 = x % 16 := by
  rw [u8_and x 15 x0 (by omega) (by omega) (by omega), show ((15 : Int)).toNat = 15 from rfl, nat_mask4]; omega
def s16 (n : Int) : Int := if n ≥ 32768 then n - 65536 else n
def s32 (n : Int) : Int := if n ≥ 2147483648 then n - 4294967296 else n
def decV (l : List Int) : Int × Int × Int × Int × Int × Int :=
  if l.length < 8 then (0, 0, 0, 0, 0, 4) else if l.length > 8 then (0, 0, 0, 0, 0, 3)
  else (rd l 0, rd l 1 % 16, rd l 1 / 16, s16 (rd l 2 + 256 * rd l 3), s32 (rd l 4 + 256 * rd l 5 + 65536 * rd l 6 + 16777216 * rd l 7), 0)
theorem wrap16 {n : Int} (h0 : 0 ≤ n) (h1 : n < 65536) : IntKind.i16.wrap n = s16 n := by
  have e : IntKind.i16.wrap n = if n % 65536 ≥ 32768 then n % 65536 - 65536 else n % 65536 := by simp [IntKind.wrap, IntKind.bits, IntKind.signed]
  unfold s16; rw [e]
  by_cases h : n ≥ 32768
  · rw [if_pos h, if_pos (by omega)]; omega
  · rw [if_neg h, if_neg (by omega)]; omega
theorem wrap32' {n : Int} (h0 : 0 ≤ n) (h1 : n < 4294967296) : wrap32 n = s32 n := by
  unfold s32 wrap32; split <;> omega
def Bytes (l : List Int) : Prop := ∀ x ∈ l, 0 ≤ x ∧ x ≤ 255
theorem Bytes.rd {l : List Int} (h : Bytes l) (i : Int) : 0 ≤ rd l i ∧ rd l i ≤ 255 := by
  have e : Go.Proofs.YtkojjjdeacdabaaDoorW.PrintWords.rd l i = l.getD i.toNat 0 := rfl
  rw [e, List.getD_eq_getElem?_getD]
  rcases Nat.lt_or_ge i.toNat l.length with hi | hi
  · rw [List.getElem?_eq_getElem hi]; exact h _ (List.getElem_mem hi)
  · rw [List.getElem?_eq_none hi]; simp
theorem Decode_eq {l : List Int} (h : Bytes l) : insn_Decode.f l = some (decV l) := by
  unfold insn_Decode.f decV
  have d0 := h.rd 0; have d1 := h.rd 1; have d2 := h.rd 2; have d3 := h.rd 3; have d4 := h.rd 4; have d5 := h.rd 5; have d6 := h.rd 6; have d7 := h.rd 7
  by_cases c1 : l.length < 8
  · rw [if_pos (by omega), if_pos c1]
  rw [if_neg (by omega), if_neg c1]
  by_cases c2 : l.length > 8
  · rw [if_pos (by omega), if_pos c2]
  have e : (l.length : Int) = 8 := by omega
  rw [if_neg (by omega), if_neg c2]
  simp only [e]
  generalize rd l 0 = b0 at *; generalize rd l 1 = b1 at *; generalize rd l 2 = b2 at *; generalize rd l 3 = b3 at *
  generalize rd l 4 = b4 at *; generalize rd l 5 = b5 at *; generalize rd l 6 = b6 at *; generalize rd l 7 = b7 at *
  simp only [IntKind.wrap_u16, show b2 % 65536 = b2 by omega, show b3 % 65536 * 256 % 65536 = b3 * 256 by omega, show b4 % 4294967296 = b4 by omega, show b5 % 4294967296 * 256 % 4294967296 = b5 * 256 by omega,
    show b6 % 4294967296 * 65536 % 4294967296 = b6 * 65536 by omega, show b7 % 4294967296 * 16777216 % 4294967296 = b7 * 16777216 by omega]
  rw [or16 (by omega) (by omega) (by omega) (by omega) (by omega), wrap16 (by omega) (by omega), or32 8 (by omega) (x := b4) (by omega) (by omega) (by omega) (by omega) (by omega), or32 16 (x := b4 + b5 * 256) (y := b6 * 65536) (by omega) (by omega) (by omega) (by omega) (by omega) (by omega),
    or32 24 (x := b4 + b5 * 256 + b6 * 65536) (y := b7 * 16777216) (by omega) (by omega) (by omega) (by omega) (by omega) (by omega), wrap32' (by omega) (by omega), and15 (by omega) (by omega)]
  simp only [show (4 : Int) < 8 by omega, show (5 : Int) < 8 by omega, show (6 : Int) < 8 by omega, show (7 : Int) < 8 by omega, show (0 : Int) < 8 by omega, show (1 : Int) < 8 by omega, show (2 : Int) < 8 by omega, show (3 : Int) < 8 by omega, if_true]
  rw [show b3 * 256 = 256 * b3 by omega, show b5 * 256 = 256 * b5 by omega, show b6 * 65536 = 65536 * b6 by omega, show b7 * 16777216 = 16777216 * b7 by omega]
theorem refDecode_eq {l : List Int} (h : Bytes l) : stockaderef02_Decode.f l = some (decV l) := by
  unfold stockaderef02_Decode.f decV
  have d0 := h.rd 0; have d1 := h.rd 1; have d2 := h.rd 2; have d3 := h.rd 3; have d4 := h.rd 4; have d5 := h.rd 5; have d6 := h.rd 6; have d7 := h.rd 7
  by_cases c1 : l.length < 8
  · rw [if_pos (by omega), if_pos c1]
  rw [if_neg (by omega), if_neg c1]
  by_cases c2 : l.length > 8
  · rw [if_pos (by omega), if_pos c2]
  have e : (l.length : Int) = 8 := by omega
  rw [if_neg (by omega), if_neg c2]
  simp only [e]
  generalize rd l 0 = b0 at *; generalize rd l 1 = b1 at *; generalize rd l 2 = b2 at *; generalize rd l 3 = b3 at *
  generalize rd l 4 = b4 at *; generalize rd l 5 = b5 at *; generalize rd l 6 = b6 at *; generalize rd l 7 = b7 at *
  have t1 : Int.tmod b1 16 = b1 % 16 := Int.tmod_eq_emod_of_nonneg (by omega)
  have t2 : Int.tdiv b1 16 % 256 = b1 / 16 := by rw [Int.tdiv_eq_ediv_of_nonneg (by omega)]; omega
  have w1 : wrap64 (wrap64 b2 + wrap64 (256 * wrap64 b3)) = b2 + 256 * b3 := by unfold wrap64; omega
  have w2 : wrap64 (wrap64 (wrap64 (wrap64 b4 + wrap64 (256 * wrap64 b5)) + wrap64 (65536 * wrap64 b6)) + wrap64 (16777216 * wrap64 b7)) = b4 + 256 * b5 + 65536 * b6 + 16777216 * b7 := by unfold wrap64; omega
  simp only [w1, w2, t1, t2, show (4 : Int) < 8 by omega, show (5 : Int) < 8 by omega, show (6 : Int) < 8 by omega, show (7 : Int) < 8 by omega, show (0 : Int) < 8 by omega, show (1 : Int) < 8 by omega, show (2 : Int) < 8 by omega, show (3 : Int) < 8 by omega, if_true]
  have i16 : ∀ n : Int, -32768 ≤ n → n < 32768 → IntKind.i16.wrap n = n := by intro n _ _; simp only [IntKind.wrap, IntKind.bits, IntKind.signed]; simp; omega
  have i32 : ∀ n : Int, -2147483648 ≤ n → n < 2147483648 → wrap32 n = n := by intro n _ _; unfold wrap32; omega
  have i64 : ∀ n : Int, -9223372036854775808 ≤ n → n ≤ 9223372036854775807 → wrap64 n = n := fun n a b => fitW a b
  unfold s16 s32
  generalize hx : b2 + 256 * b3 = x
  generalize hy : b4 + 256 * b5 + 65536 * b6 + 16777216 * b7 = y
  by_cases cx : x ≥ 32768 <;> by_cases cy : y ≥ 2147483648
  · rw [if_pos cx, if_pos cy, if_pos cx, if_pos cy, i64 (x - 65536) (by omega) (by omega), i64 (y - 4294967296) (by omega) (by omega), i16 _ (by omega) (by omega), i32 _ (by omega) (by omega)]
  · rw [if_pos cx, if_neg cy, if_pos cx, if_neg cy, i64 (x - 65536) (by omega) (by omega), i16 _ (by omega) (by omega), i32 _ (by omega) (by omega)]
  · rw [if_neg cx, if_pos cy, if_neg cx, if_pos cy, i64 (y - 4294967296) (by omega) (by omega), i16 _ (by omega) (by omega), i32 _ (by omega) (by omega)]
  · rw [if_neg cx, if_neg cy, if_neg cx, if_neg cy, i16 _ (by omega) (by omega), i32 _ (by omega) (by omega)]
end Go.Proofs.YtkojjjdeacdabaaDoor.Pure
