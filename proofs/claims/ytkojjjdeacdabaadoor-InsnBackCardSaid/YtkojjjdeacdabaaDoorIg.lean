/- Chapter 02: Encode in plain terms. -/
import Derived.Test.YtkojjjdeacdabaaDoorPx13
import Derived.Test.YtkojjjdeacdabaaDoorIe
namespace Go.Proofs.YtkojjjdeacdabaaDoor.Pure
open Go.RowKit Go.Proofs.YtkojjjdeacdabaaDoorW.PrintWords Go.Proofs.YtkojjjdeacdabaaDoorW.PrintLast Go.Proofs.YtkojjjdeacdabaaDoorW.PrintMore Go.Proofs.YtkojjjdeacdabaaDoor.P
set_option linter.unusedVariables false
set_option linter.unusedSimpArgs false

def encV (op dst src off imm : Int) : List Int × Int :=
  if dst > 15 ∨ src > 15 then ([], 21)
  else ([op, dst + 16 * src, off % 256, off / 256 % 256, imm % 256, imm / 256 % 256, imm / 65536 % 256, imm / 16777216 % 256], 0)
theorem or_u8 {x y : Int} (x0 : 0 ≤ x) (x1 : x < 16) (y0 : 0 ≤ y) (y1 : y < 256) (h : y % 16 = 0) : Go.bits .or .u8 x y = x + y := by
  rw [u8_or x y x0 (by omega) y0 y1, or_join x y 4 x0 (by omega) y0 (by omega)]
theorem Encode_eq {op dst src off imm : Int} (d0 : 0 ≤ dst) (s0 : 0 ≤ src) (o0 : -32768 ≤ off) (o1 : off ≤ 32767) (i0 : -2147483648 ≤ imm) (i1 : imm ≤ 2147483647) :
    insn_Encode.f op dst src off imm = some (encV op dst src off imm) := by
  unfold insn_Encode.f encV
  by_cases c1 : dst > 15
  · rw [if_pos c1, if_pos (.inl c1)]
  by_cases c2 : src > 15
  · rw [if_neg c1, if_pos c2, if_pos (.inr c2)]
  rw [if_neg c1, if_neg c2, if_neg (by omega)]
  simp only [IntKind.wrap_u16, show src * 16 % 256 = src * 16 by omega]
  rw [or_u8 d0 (by omega) (by omega) (by omega) (by omega)]
  rw [show off % 65536 % 256 = off % 256 by omega, show off % 65536 / 256 % 256 = off / 256 % 256 by omega, show imm % 4294967296 % 256 = imm % 256 by omega, show imm % 4294967296 / 256 % 256 = imm / 256 % 256 by omega,
    show imm % 4294967296 / 65536 % 256 = imm / 65536 % 256 by omega, show imm % 4294967296 / 16777216 = imm / 16777216 % 256 by omega, show src * 16 = 16 * src by omega]
theorem refEncode_eq {op dst src off imm : Int} (k : Nat) (d0 : 0 ≤ dst) (s0 : 0 ≤ src) (o0 : -32768 ≤ off) (o1 : off ≤ 32767) (i0 : -2147483648 ≤ imm) (i1 : imm ≤ 2147483647) :
    stockaderef02_Encode.f (k + 1) op dst src off imm = some (encV op dst src off imm) := by
  unfold stockaderef02_Encode.f encV
  have hw : ∀ n : Int, -9223372036854775808 ≤ n → n ≤ 9223372036854775807 → wrap64 n = n := fun n a b => fitW a b
  have m0 : ∀ n : Int, 0 ≤ n → Int.tmod n 256 % 256 = n % 256 := by intro n h; rw [Int.tmod_eq_emod_of_nonneg h]; omega
  have q0 : ∀ n d : Int, 0 ≤ n → Int.tdiv n d = n / d := by intro n d h; exact Int.tdiv_eq_ediv_of_nonneg h
  have fin : ∀ x y : Int, 0 ≤ x → x < 65536 → 0 ≤ y → y < 4294967296 → dst ≤ 15 → src ≤ 15 → x % 65536 = off % 65536 → y % 4294967296 = imm % 4294967296 →
      ([op, (dst + 16 * src % 256) % 256, Int.tmod x 256 % 256, wrap64 (Int.tdiv x 256) % 256, Int.tmod y 256 % 256, Int.tmod (wrap64 (Int.tdiv y 256)) 256 % 256, Int.tmod (wrap64 (Int.tdiv y 65536)) 256 % 256, wrap64 (Int.tdiv y 16777216) % 256] : List Int) =
        [op, dst + 16 * src, off % 256, off / 256 % 256, imm % 256, imm / 256 % 256, imm / 65536 % 256, imm / 16777216 % 256] := by
    intro x y x0 x1 y0 y1 d1 s1 hx hy
    simp only [q0 x _ x0, q0 y _ y0, hw (x / 256) (by omega) (by omega), hw (y / 256) (by omega) (by omega), hw (y / 65536) (by omega) (by omega), hw (y / 16777216) (by omega) (by omega), m0 x x0, m0 y y0, m0 (y / 256) (by omega), m0 (y / 65536) (by omega)]
    rw [show (dst + 16 * src % 256) % 256 = dst + 16 * src by omega, show x % 256 = off % 256 by omega, show x / 256 % 256 = off / 256 % 256 by omega, show y % 256 = imm % 256 by omega, show y / 256 % 256 = imm / 256 % 256 by omega,
      show y / 65536 % 256 = imm / 65536 % 256 by omega, show y / 16777216 % 256 = imm / 16777216 % 256 by omega]
  by_cases c1 : dst > 15
  · rw [if_pos c1, if_pos (.inl c1)]; simp [stockaderef02_Encode.j0]
  rw [if_neg c1]
  by_cases c2 : src > 15
  · rw [if_pos (.inr c2)]; simp [stockaderef02_Encode.j0, c2]
  rw [if_neg (by omega : ¬ (dst > 15 ∨ src > 15))]
  simp only [stockaderef02_Encode.j0, decide_eq_true_eq]
  rw [if_neg c2, hw off (by omega) (by omega), hw imm (by omega) (by omega), hw (off + 65536) (by omega) (by omega), hw (imm + 4294967296) (by omega) (by omega)]
  by_cases a1 : off < 0 <;> by_cases a2 : imm < 0
  · rw [if_pos a1, if_pos a2, fin (off + 65536) (imm + 4294967296) (by omega) (by omega) (by omega) (by omega) (by omega) (by omega) (by omega) (by omega)]
  · rw [if_pos a1, if_neg a2, fin (off + 65536) imm (by omega) (by omega) (by omega) (by omega) (by omega) (by omega) (by omega) (by omega)]
  · rw [if_neg a1, if_pos a2, fin off (imm + 4294967296) (by omega) (by omega) (by omega) (by omega) (by omega) (by omega) (by omega) (by omega)]
  · rw [if_neg a1, if_neg a2, fin off imm (by omega) (by omega) (by omega) (by omega) (by omega) (by omega) (by omega) (by omega)]
end Go.Proofs.YtkojjjdeacdabaaDoor.Pure
