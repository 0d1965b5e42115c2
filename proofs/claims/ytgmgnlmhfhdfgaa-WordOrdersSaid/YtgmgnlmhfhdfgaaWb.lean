/- Plain facts about bits of natural numbers and of 64-bit words; no conditions but the ones each theorem names. -/
import Derived.Test.YtgmgnlmhfhdfgaaWd
namespace Go.Proofs.Ytgmgnlmhfhdfgaa.Wd
open Go Go.RowKit Go.Proofs.YtgmgnlmhfhdfgaaW.PrintWords Go.Proofs.YtgmgnlmhfhdfgaaW.PrintLast Go.Proofs.YtgmgnlmhfhdfgaaW.PrintMore

theorem xor_top_lo {i n : Nat} (h : n < 2 ^ i) : n ^^^ 2 ^ i = n + 2 ^ i := by
  have e := nat_join i (2 ^ i) n (Nat.mod_self _) h
  rw [Nat.add_comm, ← e]
  apply Nat.eq_of_testBit_eq
  intro j
  simp only [Nat.testBit_xor, Nat.testBit_or, Nat.testBit_two_pow]
  by_cases e : i = j
  · subst e; simp [Nat.testBit_lt_two_pow h]
  · simp [e]
theorem xor_top_hi {i n : Nat} (h : 2 ^ i ≤ n) (h2 : n < 2 ^ (i + 1)) : n ^^^ 2 ^ i = n - 2 ^ i := by
  have hr : n - 2 ^ i < 2 ^ i := by rw [Nat.pow_succ] at h2; omega
  have e := xor_top_lo hr
  rw [Nat.sub_add_cancel h] at e
  have e2 : n ^^^ 2 ^ i = (n - 2 ^ i ^^^ 2 ^ i) ^^^ 2 ^ i := by rw [e]
  rw [e2, Nat.xor_assoc, Nat.xor_self, Nat.xor_zero]
theorem turned_eq (w : Bool) {x : Int} (h : In w x) : Go.bits .xor .u64 x (top w) = sg w x + top w := by
  have hR := In_R h
  obtain ⟨n, rfl⟩ := Int.eq_ofNat_of_zero_le h.1
  cases w
  · simp only [In, sg, top, Bool.false_eq_true, if_false] at *
    have e := u64_xor_nat n 2147483648 (by omega) (by omega)
    rw [show ((2147483648 : Nat) : Int) = 2147483648 from rfl] at e
    rw [e, show (2147483648 : Nat) = 2 ^ 31 from rfl]
    by_cases hc : n < 2147483648
    · rw [xor_top_lo (by rw [show (2 : Nat) ^ 31 = 2147483648 from rfl]; exact hc), show (2 : Nat) ^ 31 = 2147483648 from rfl]
      unfold wrap32; omega
    · rw [xor_top_hi (by rw [show (2 : Nat) ^ 31 = 2147483648 from rfl]; omega) (by rw [show (2 : Nat) ^ (31 + 1) = 4294967296 from rfl]; omega), show (2 : Nat) ^ 31 = 2147483648 from rfl]
      unfold wrap32; omega
  · simp only [In, sg, top, if_true] at *
    have e := u64_xor_nat n 9223372036854775808 (by omega) (by omega)
    rw [show ((9223372036854775808 : Nat) : Int) = 9223372036854775808 from rfl] at e
    rw [e, show (9223372036854775808 : Nat) = 2 ^ 63 from rfl]
    by_cases hc : n < 9223372036854775808
    · rw [xor_top_lo (by rw [show (2 : Nat) ^ 63 = 9223372036854775808 from rfl]; exact hc), show (2 : Nat) ^ 63 = 9223372036854775808 from rfl]
      unfold wrap64; omega
    · rw [xor_top_hi (by rw [show (2 : Nat) ^ 63 = 9223372036854775808 from rfl]; omega) (by rw [show (2 : Nat) ^ (63 + 1) = 18446744073709551616 from rfl]; omega), show (2 : Nat) ^ 63 = 9223372036854775808 from rfl]
      unfold wrap64; omega

/-- What a condition answers. -/
def condR (op : Int) (w : Bool) (a b : Int) : Bool × Int :=
  if op = 1 then ((fit w a == fit w b), 0) else if op = 2 then (decide (fit w a > fit w b), 0) else if op = 3 then (decide (fit w a ≥ fit w b), 0)
  else if op = 4 then ((Go.bits .and .u64 (fit w a) (fit w b) != 0), 0) else if op = 5 then ((fit w a != fit w b), 0)
  else if op = 6 then (decide (sg w (fit w a) > sg w (fit w b)), 0) else if op = 7 then (decide (sg w (fit w a) ≥ sg w (fit w b)), 0)
  else if op = 10 then (decide (fit w a < fit w b), 0) else if op = 11 then (decide (fit w a ≤ fit w b), 0)
  else if op = 12 then (decide (sg w (fit w a) < sg w (fit w b)), 0) else if op = 13 then (decide (sg w (fit w a) ≤ sg w (fit w b)), 0) else (false, 20)
theorem signed_eq (w : Bool) (x : Int) : P.word_signed.f x w = some (sg w x) := by
  unfold P.word_signed.f sg
  cases w
  · simp only [Bool.false_eq_true, if_false]; congr 1; unfold wrap64 wrap32; omega
  · rfl
def ops11 (op : Int) : Prop := op = 1 ∨ op = 2 ∨ op = 3 ∨ op = 4 ∨ op = 5 ∨ op = 6 ∨ op = 7 ∨ op = 10 ∨ op = 11 ∨ op = 12 ∨ op = 13
theorem cond_j0 (k : Nat) (op : Int) (w : Bool) (a b : Int) : P.word_Cond.j0 (k + 1) op w (fit w a) (fit w b) = some (condR op w a b) := by
  simp only [P.word_Cond.j0, signed_eq, Option.bind_some, condR]
  by_cases h : ops11 op
  · rcases h with rfl | rfl | rfl | rfl | rfl | rfl | rfl | rfl | rfl | rfl | rfl <;> rfl
  · unfold ops11 at h
    rw [if_neg (by omega), if_neg (by omega), if_neg (by omega), if_neg (by omega), if_neg (by omega), if_neg (by omega), if_neg (by omega), if_neg (by omega), if_neg (by omega), if_neg (by omega), if_neg (by omega),
      if_neg (by omega), if_neg (by omega), if_neg (by omega), if_neg (by omega), if_neg (by omega), if_neg (by omega), if_neg (by omega), if_neg (by omega), if_neg (by omega), if_neg (by omega), if_neg (by omega)]
theorem cond_eq (k : Nat) (hk : 0 < k) (op : Int) (w : Bool) {a b : Int} (ha : R a) (hb : R b) : P.word_Cond.f k op w a b = some (condR op w a b) := by
  obtain ⟨k, rfl⟩ : ∃ m, k = m + 1 := ⟨k - 1, by omega⟩
  have h := cond_j0 k op w a b
  unfold P.word_Cond.f
  cases w
  · rw [if_neg (by simp), half_eq ha, half_eq hb]; exact h
  · exact h
theorem Turned_eq (w : Bool) {a : Int} (ha : R a) : P.stockaderef01_Turned.f w a = some (sg w (fit w a) + top w) := by
  have ht : shl .u64 1 (IntKind.u64.wrap (size w - 1)) = top w := by cases w <;> decide +kernel
  have ht0 : 0 ≤ IntKind.u64.wrap (size w - 1) := by cases w <;> decide +kernel
  unfold P.stockaderef01_Turned.f
  rw [Fit_eq w ha, Size_eq]
  simp only [Option.bind_some]
  rw [if_pos ht0, ht, turned_eq w (In_fit ha)]
theorem bits_pos (op : BinOp) (a b : Int) : decide (Go.bits op .u64 a b > 0) = (Go.bits op .u64 a b != 0) := by
  have := R_bits op a b
  unfold R at this
  by_cases h : Go.bits op .u64 a b = 0
  · simp [h]
  · rw [decide_eq_true (by omega)]; simp [h]
theorem Cond_ref (op : Int) (w : Bool) {a b : Int} (ha : R a) (hb : R b) : P.stockaderef01_Cond.f op w a b = some (condR op w a b) := by
  unfold P.stockaderef01_Cond.f
  rw [Fit_eq w ha, Fit_eq w hb, Turned_eq w ha, Turned_eq w hb]
  simp only [Option.bind_some, condR]
  have g (x y t : Int) : decide (x + t > y + t) = decide (x > y) := by simp
  have g2 (x y t : Int) : decide (x + t ≥ y + t) = decide (x ≥ y) := by simp
  have g3 (x y t : Int) : decide (x + t < y + t) = decide (x < y) := by simp
  have g4 (x y t : Int) : decide (x + t ≤ y + t) = decide (x ≤ y) := by simp
  rw [g, g2, g3, g4, bits_pos]
  by_cases h : ops11 op
  · rcases h with rfl | rfl | rfl | rfl | rfl | rfl | rfl | rfl | rfl | rfl | rfl <;> rfl
  · unfold ops11 at h
    rw [if_neg (by omega), if_neg (by omega), if_neg (by omega), if_neg (by omega), if_neg (by omega), if_neg (by omega), if_neg (by omega), if_neg (by omega), if_neg (by omega), if_neg (by omega), if_neg (by omega),
      if_neg (by omega), if_neg (by omega), if_neg (by omega), if_neg (by omega), if_neg (by omega), if_neg (by omega), if_neg (by omega), if_neg (by omega), if_neg (by omega), if_neg (by omega), if_neg (by omega)]

/-! words cut in two -/
theorem cat_eq (k x : Nat) : x = x / 2 ^ k * 2 ^ k + x % 2 ^ k := by rw [Nat.mul_comm]; exact (Nat.div_add_mod x (2 ^ k)).symm
theorem and_cat (k : Nat) {b d : Nat} (a c : Nat) (hb : b < 2 ^ k) (hd : d < 2 ^ k) : (a * 2 ^ k + b) &&& (c * 2 ^ k + d) = (a &&& c) * 2 ^ k + (b &&& d) := by
  have h := cat_eq k ((a * 2 ^ k + b) &&& (c * 2 ^ k + d))
  have hp : 0 < 2 ^ k := Nat.two_pow_pos k
  rw [Nat.and_div_two_pow, Nat.and_mod_two_pow, Nat.mul_comm a, Nat.mul_comm c, Nat.mul_add_div hp, Nat.mul_add_div hp, Nat.mul_add_mod, Nat.mul_add_mod, Nat.div_eq_of_lt hb, Nat.div_eq_of_lt hd, Nat.mod_eq_of_lt hb, Nat.mod_eq_of_lt hd] at h
  simpa [Nat.mul_comm] using h
theorem or_cat (k : Nat) {b d : Nat} (a c : Nat) (hb : b < 2 ^ k) (hd : d < 2 ^ k) : (a * 2 ^ k + b) ||| (c * 2 ^ k + d) = (a ||| c) * 2 ^ k + (b ||| d) := by
  have h := cat_eq k ((a * 2 ^ k + b) ||| (c * 2 ^ k + d))
  have hp : 0 < 2 ^ k := Nat.two_pow_pos k
  rw [Nat.or_div_two_pow, Nat.or_mod_two_pow, Nat.mul_comm a, Nat.mul_comm c, Nat.mul_add_div hp, Nat.mul_add_div hp, Nat.mul_add_mod, Nat.mul_add_mod, Nat.div_eq_of_lt hb, Nat.div_eq_of_lt hd, Nat.mod_eq_of_lt hb, Nat.mod_eq_of_lt hd] at h
  simpa [Nat.mul_comm] using h
theorem or_add_and (a : Nat) : ∀ b, (a ||| b) + (a &&& b) = a + b := by
  induction a using Nat.strongRecOn with
  | _ a ih =>
    intro b
    by_cases h : a = 0
    · subst h; simp
    · have h1 := ih (a / 2) (by omega) (b / 2)
      have ho := or_cat 1 (a / 2) (b / 2) (b := a % 2) (d := b % 2) (by omega) (by omega)
      have hn := and_cat 1 (a / 2) (b / 2) (b := a % 2) (d := b % 2) (by omega) (by omega)
      have ea : a / 2 * 2 ^ 1 + a % 2 = a := by omega
      have eb : b / 2 * 2 ^ 1 + b % 2 = b := by omega
      rw [ea, eb] at ho hn
      have hl : (a % 2 ||| b % 2) + (a % 2 &&& b % 2) = a % 2 + b % 2 := by
        rcases Nat.mod_two_eq_zero_or_one a with e | e <;> rcases Nat.mod_two_eq_zero_or_one b with f | f <;> rw [e, f] <;> decide
      omega
theorem not_eq {x : Int} (h : R x) : Go.bits .xor .u64 18446744073709551615 x = 18446744073709551615 - x := by
  obtain ⟨n, rfl⟩ := Int.eq_ofNat_of_zero_le h.1
  unfold R at h
  have e := u64_xor_nat 18446744073709551615 n (by omega) (by omega)
  rw [show ((18446744073709551615 : Nat) : Int) = 18446744073709551615 from rfl] at e
  rw [e]
  have hb := congrArg BitVec.toNat (BitVec.allOnes_xor (x := BitVec.ofNat 64 n))
  rw [BitVec.toNat_xor, BitVec.toNat_not, BitVec.toNat_allOnes, BitVec.toNat_ofNat, Nat.mod_eq_of_lt (by omega)] at hb
  rw [show (2 : Nat) ^ 64 - 1 = 18446744073709551615 from rfl] at hb
  omega
end Go.Proofs.Ytgmgnlmhfhdfgaa.Wd
