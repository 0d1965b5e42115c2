/- Plain facts about the laws' helper alu: what each operation gives, as numbers modulo 2 to the 64th or 32nd; no conditions but the ones each theorem names. -/
import Derived.Test.YtgmgnlmhfhdfgaaWb
import Derived.Test.YtgmgnlmhfhdfgaaPx4
namespace Go.Proofs.Ytgmgnlmhfhdfgaa.Wd
open Go Go.RowKit Go.Proofs.YtgmgnlmhfhdfgaaW.PrintWords Go.Proofs.YtgmgnlmhfhdfgaaW.PrintLast Go.Proofs.YtgmgnlmhfhdfgaaW.PrintMore

def md (w : Bool) : Int := if w then 18446744073709551616 else 4294967296
def A (op : Int) (w : Bool) (a b : Int) : Int := fit w (aluV op w (fit w a) (fit w b))
theorem R_A (op : Int) (w : Bool) {a b : Int} (ha : R a) (hb : R b) : R (A op w a b) := R_fit w (R_aluV op w (R_fit w ha) (R_fit w hb))
theorem In_A (op : Int) (w : Bool) {a b : Int} (ha : R a) (hb : R b) : In w (A op w a b) := In_fit (R_aluV op w (R_fit w ha) (R_fit w hb))
theorem alu'_eq (op : Int) (h : 0 ≤ op ∧ op ≤ 12) (w : Bool) {a b : Int} (ha : R a) (hb : R b) : P.stockadelaw01_alu.f op w a b = some (A op w a b) := by
  unfold P.stockadelaw01_alu.f
  rw [alu_eq op w ha hb]
  simp only [aluR, if_pos h, Option.bind_some, if_true]
  rfl
theorem half'_eq {a : Int} (h : R a) : P.stockadelaw01_half.f a = some (a % 4294967296) := half_eq h
theorem fit'_eq (w : Bool) {a : Int} (h : R a) : P.stockadelaw01_fit.f w a = some (fit w a) := by
  unfold P.stockadelaw01_fit.f fit
  rw [half'_eq h]
  cases w <;> rfl
theorem size'_eq (w : Bool) : P.stockadelaw01_size.f w = some (size w) := by cases w <;> rfl
theorem fit_md (w : Bool) {a : Int} (h : R a) : fit w a = a % md w := by
  unfold R at h
  cases w
  · rfl
  · simp only [fit, md, if_true]; omega
theorem fit_wrap (w : Bool) (x : Int) : fit w (IntKind.u64.wrap x) = x % md w := by
  rw [IntKind.wrap_u64]
  cases w
  · simp only [fit, md, Bool.false_eq_true, if_false]; omega
  · rfl
theorem addL (x y m : Int) : (x % m + y) % m = (x + y) % m := by rw [Int.add_emod, Int.emod_emod, ← Int.add_emod]
theorem addR (x y m : Int) : (x + y % m) % m = (x + y) % m := by rw [Int.add_emod, Int.emod_emod, ← Int.add_emod]
theorem subL (x y m : Int) : (x % m - y) % m = (x - y) % m := by rw [Int.sub_emod, Int.emod_emod, ← Int.sub_emod]
theorem subR (x y m : Int) : (x - y % m) % m = (x - y) % m := by rw [Int.sub_emod, Int.emod_emod, ← Int.sub_emod]
theorem mulL (x y m : Int) : (x % m * y) % m = (x * y) % m := by rw [Int.mul_emod, Int.emod_emod, ← Int.mul_emod]
theorem mulR (x y m : Int) : (x * (y % m)) % m = (x * y) % m := by rw [Int.mul_emod, Int.emod_emod, ← Int.mul_emod]
theorem A0 (w : Bool) {a b : Int} (ha : R a) (hb : R b) : A 0 w a b = (a + b) % md w := by
  show fit w (IntKind.u64.wrap (fit w a + fit w b)) = _
  rw [fit_wrap, fit_md w ha, fit_md w hb, addL, addR]
theorem A1 (w : Bool) {a b : Int} (ha : R a) (hb : R b) : A 1 w a b = (a - b) % md w := by
  show fit w (IntKind.u64.wrap (fit w a - fit w b)) = _
  rw [fit_wrap, fit_md w ha, fit_md w hb, subL, subR]
theorem A2 (w : Bool) {a b : Int} (ha : R a) (hb : R b) : A 2 w a b = (a * b) % md w := by
  show fit w (IntKind.u64.wrap (fit w a * fit w b)) = _
  rw [fit_wrap, fit_md w ha, fit_md w hb, mulL, mulR]
theorem A8 (w : Bool) {a : Int} (b : Int) (ha : R a) : A 8 w a b = (-a) % md w := by
  show fit w (IntKind.u64.wrap (-fit w a)) = _
  rw [fit_wrap, fit_md w ha, ← Int.zero_sub, subR, Int.zero_sub]
theorem fit_fit (w : Bool) {a : Int} (h : R a) : fit w (fit w a) = fit w a := fit_In (In_fit h)
theorem A11 (w : Bool) (a : Int) {b : Int} (hb : R b) : A 11 w a b = fit w b := fit_fit w hb
theorem In_bits {w : Bool} {x y : Int} (hx : In w x) (hy : In w y) : In w (Go.bits .or .u64 x y) ∧ In w (Go.bits .and .u64 x y) ∧ In w (Go.bits .xor .u64 x y) := by
  have h1 := In_R hx
  have h2 := In_R hy
  obtain ⟨n, rfl⟩ := Int.eq_ofNat_of_zero_le h1.1
  obtain ⟨p, rfl⟩ := Int.eq_ofNat_of_zero_le h2.1
  have hn : n < 18446744073709551616 := by have := h1.2; omega
  have hp : p < 18446744073709551616 := by have := h2.2; omega
  rw [u64_or_nat n p hn hp, u64_and_nat n p hn hp, u64_xor_nat n p hn hp]
  cases w
  · simp only [In, Bool.false_eq_true, if_false] at *
    have a1 : n ||| p < 2 ^ 32 := Nat.or_lt_two_pow (by omega) (by omega)
    have a2 : n &&& p < 2 ^ 32 := Nat.and_lt_two_pow _ (by omega)
    have a3 : n ^^^ p < 2 ^ 32 := Nat.xor_lt_two_pow (by omega) (by omega)
    omega
  · simp only [In, if_true] at *
    have a1 : n ||| p < 2 ^ 64 := Nat.or_lt_two_pow (by omega) (by omega)
    have a2 : n &&& p < 2 ^ 64 := Nat.and_lt_two_pow _ (by omega)
    have a3 : n ^^^ p < 2 ^ 64 := Nat.xor_lt_two_pow (by omega) (by omega)
    omega
theorem A4 (w : Bool) {a b : Int} (ha : R a) (hb : R b) : A 4 w a b = Go.bits .or .u64 (fit w a) (fit w b) := fit_In (In_bits (In_fit ha) (In_fit hb)).1
theorem A5 (w : Bool) {a b : Int} (ha : R a) (hb : R b) : A 5 w a b = Go.bits .and .u64 (fit w a) (fit w b) := fit_In (In_bits (In_fit ha) (In_fit hb)).2.1
theorem A10 (w : Bool) {a b : Int} (ha : R a) (hb : R b) : A 10 w a b = Go.bits .xor .u64 (fit w a) (fit w b) := fit_In (In_bits (In_fit ha) (In_fit hb)).2.2
theorem or_and_sum {x y : Int} (hx : R x) (hy : R y) : Go.bits .or .u64 x y + Go.bits .and .u64 x y = x + y := by
  obtain ⟨n, rfl⟩ := Int.eq_ofNat_of_zero_le hx.1
  obtain ⟨p, rfl⟩ := Int.eq_ofNat_of_zero_le hy.1
  have hn : n < 18446744073709551616 := by have := hx.2; omega
  have hp : p < 18446744073709551616 := by have := hy.2; omega
  rw [u64_or_nat n p hn hp, u64_and_nat n p hn hp]
  have := or_add_and n p
  omega
theorem xor_twice {x y : Int} (hx : R x) (hy : R y) : Go.bits .xor .u64 (Go.bits .xor .u64 x y) y = x := by
  obtain ⟨n, rfl⟩ := Int.eq_ofNat_of_zero_le hx.1
  obtain ⟨p, rfl⟩ := Int.eq_ofNat_of_zero_le hy.1
  have hn : n < 18446744073709551616 := by have := hx.2; omega
  have hp : p < 18446744073709551616 := by have := hy.2; omega
  have hl : n ^^^ p < 2 ^ 64 := Nat.xor_lt_two_pow (by omega) (by omega)
  rw [u64_xor_nat n p hn hp, u64_xor_nat _ p (by omega) hp, Nat.xor_assoc, Nat.xor_self, Nat.xor_zero]
end Go.Proofs.Ytgmgnlmhfhdfgaa.Wd
