/- Plain facts about layer 1's Lean functions: what word.Alu and the reference's Alu compute, and that awake answers true; no conditions but the ones each theorem names. -/
import Derived.Test.YtgmgnlmhfhdfgaaPx3
import Derived.Laws.BitsAllLaws
import Derived.Laws.Bits64
namespace Go.Proofs.Ytgmgnlmhfhdfgaa.Wd
open Go Go.RowKit Go.Proofs.YtgmgnlmhfhdfgaaW.PrintWords Go.Proofs.YtgmgnlmhfhdfgaaW.PrintLast Go.Proofs.YtgmgnlmhfhdfgaaW.PrintMore

def R (x : Int) : Prop := 0 ≤ x ∧ x < 18446744073709551616
theorem R_wf {a : Int} (h : (Lit.int .u64 a).wf = true) : R a := by
  simp only [Lit.wf, Bool.and_eq_true, decide_eq_true_eq] at h
  have h1 : IntKind.u64.min = 0 := by decide
  have h2 : IntKind.u64.max = 18446744073709551615 := by decide
  rw [h1, h2] at h
  unfold R; omega
theorem R_wrap (x : Int) : R (IntKind.u64.wrap x) := by rw [IntKind.wrap_u64]; unfold R; omega
theorem R_bits (op : BinOp) (a b : Int) : R (Go.bits op .u64 a b) := R_wrap _
theorem R_shl (a b : Int) : R (shl .u64 a b) := R_wrap _
theorem R_div {a b : Int} (h : R a) (hb : 0 ≤ b) : R (a / b) := by
  unfold R at *
  have h1 := Int.ediv_le_self b h.1
  exact ⟨Int.ediv_nonneg h.1 hb, by omega⟩
theorem R_mod {a b : Int} (h : R a) (hb : 0 ≤ b) : R (a % b) := by
  unfold R at *
  rcases Int.lt_or_eq_of_le hb with h1 | h1
  · have h2 := Int.emod_nonneg a (Int.ne_of_gt h1)
    have h3 : a % b ≤ a := by
      have h4 := Int.mul_ediv_add_emod a b
      have h5 := Int.mul_nonneg hb (Int.ediv_nonneg h.1 hb)
      omega
    omega
  · subst h1; simpa using h
theorem R_shr {a : Int} (b : Int) (h : R a) : R (shr .u64 a b) := R_div h (Int.le_of_lt (Int.pow_pos (by omega)))
def fit (b : Bool) (a : Int) : Int := if b then a else a % 4294967296
theorem R_fit {a : Int} (b : Bool) (h : R a) : R (fit b a) := by
  unfold R fit at *; cases b <;> simp <;> omega
theorem half_eq {a : Int} (h : R a) : P.word_half.f a = some (a % 4294967296) := by
  unfold R at h
  unfold P.word_half.f
  rw [u64_and a 4294967295 h.1 h.2 (by omega) (by omega)]
  congr 1
  rw [show ((4294967295 : Int)).toNat = 4294967295 from rfl, nat_mask32]
  omega
theorem Fit_eq {a : Int} (b : Bool) (h : R a) : P.stockaderef01_Fit.f b a = some (fit b a) := by
  unfold P.stockaderef01_Fit.f fit
  unfold R at h
  cases b
  · simp [Int.tmod_eq_emod_of_nonneg h.1]
  · simp
def size (w : Bool) : Int := if w then 64 else 32
theorem Size_eq (w : Bool) : P.stockaderef01_Size.f w = some (size w) := by cases w <;> rfl
def sg (w : Bool) (x : Int) : Int := if w then wrap64 x else wrap32 x
/-- What an operation gives, of two numbers that fit. -/
def aluV (op : Int) (w : Bool) (x y : Int) : Int :=
  if op = 0 then IntKind.u64.wrap (x + y) else if op = 1 then IntKind.u64.wrap (x - y) else if op = 2 then IntKind.u64.wrap (x * y)
  else if op = 3 then (if y = 0 then 0 else x / y) else if op = 4 then Go.bits .or .u64 x y else if op = 5 then Go.bits .and .u64 x y
  else if op = 6 then shl .u64 x (y % size w) else if op = 7 then shr .u64 x (y % size w) else if op = 8 then IntKind.u64.wrap (-x)
  else if op = 9 then (if y = 0 then x else x % y) else if op = 10 then Go.bits .xor .u64 x y else if op = 11 then y
  else IntKind.u64.wrap (sg w x / 2 ^ (y % size w).toNat)
def aluR (op : Int) (w : Bool) (a b : Int) : Int × Int := if 0 ≤ op ∧ op ≤ 12 then (fit w (aluV op w (fit w a) (fit w b)), 0) else (0, 20)
theorem R_zero : R 0 := by unfold R; omega
theorem wrap_R {x : Int} (h : R x) : IntKind.u64.wrap x = x := by rw [IntKind.wrap_u64]; unfold R at h; omega
theorem tdiv_R {x y : Int} (hx : R x) (hy : 0 ≤ y) : IntKind.u64.wrap (Int.tdiv x y) = x / y := by
  rw [Int.tdiv_eq_ediv_of_nonneg hx.1, wrap_R (R_div hx hy)]
theorem tmod_R {x y : Int} (hx : R x) : Int.tmod x y = x % y := Int.tmod_eq_emod_of_nonneg hx.1
theorem lit1_eq (a : Int) : P.word_Alu_lit1.f a = some a := rfl
theorem down_eq (w : Bool) {x y : Int} (_hx : R x) (hy : 0 ≤ y) (hs : y < size w) : ∃ v, P.word_down.f x y (size w) = some v ∧ R v ∧ fit w v = fit w (IntKind.u64.wrap (sg w x / 2 ^ y.toNat)) := by
  unfold P.word_down.f
  cases w
  · simp only [size] at hs
    have e : shr .i32 (wrap32 x) y = wrap32 x / 2 ^ y.toNat := by
      unfold shr
      rw [Nat.min_eq_left (by simp [IntKind.bits]; simp at hs; omega)]
    simp only [size, if_false, Bool.false_eq_true]
    rw [if_pos trivial, if_pos hy, half_eq (R_wrap _), e]
    refine ⟨_, rfl, ?_, ?_⟩
    · exact R_mod (R_wrap _) (by omega)
    · simp [fit, sg]
  · simp only [size] at hs
    have e : shr .i64 (wrap64 x) y = wrap64 x / 2 ^ y.toNat := by
      unfold shr
      rw [Nat.min_eq_left (by simp [IntKind.bits]; simp at hs; omega)]
    simp only [size, if_true]
    rw [if_neg (by omega), if_pos hy, e]
    exact ⟨_, rfl, R_wrap _, rfl⟩
theorem R_ite {c : Prop} [Decidable c] {a b : Int} (ha : R a) (hb : R b) : R (if c then a else b) := by split <;> assumption
theorem R_aluV (op : Int) (w : Bool) {x y : Int} (hx : R x) (hy : R y) : R (aluV op w x y) := by
  unfold aluV
  repeat' (refine R_ite ?_ ?_)
  all_goals first | exact R_wrap _ | exact R_bits _ _ _ | exact R_shl _ _ | exact R_shr _ hx | exact hx | exact hy | exact R_zero | exact R_div hx hy.1 | exact R_mod hx hy.1
theorem size_mod (w : Bool) (b : Int) : 0 ≤ b % size w ∧ b % size w < size w := by
  cases w
  · show 0 ≤ b % 32 ∧ b % 32 < 32; omega
  · show 0 ≤ b % 64 ∧ b % 64 < 64; omega
theorem ops (op : Int) (h : 0 ≤ op ∧ op ≤ 12) : op = 0 ∨ op = 1 ∨ op = 2 ∨ op = 3 ∨ op = 4 ∨ op = 5 ∨ op = 6 ∨ op = 7 ∨ op = 8 ∨ op = 9 ∨ op = 10 ∨ op = 11 ∨ op = 12 := by omega
theorem alu_eq (op : Int) (w : Bool) {a b : Int} (ha : R a) (hb : R b) : P.word_Alu.f op w a b = some (aluR op w a b) := by
  have hx := R_fit w ha
  have hy := R_fit w hb
  have hm := size_mod w (fit w b)
  obtain ⟨v, hv, Rv, ev⟩ := down_eq w hx hm.1 hm.2
  unfold aluR
  by_cases h : 0 ≤ op ∧ op ≤ 12
  · rw [if_pos h]
    have hR := R_aluV op w hx hy
    cases w
    · simp only [fit, Bool.false_eq_true, if_false, size] at hx hy hm hv ev hR ⊢
      rcases ops op h with rfl | rfl | rfl | rfl | rfl | rfl | rfl | rfl | rfl | rfl | rfl | rfl | rfl
      all_goals simp only [P.word_Alu.f, half_eq ha, half_eq hb, Option.bind_some, Bool.false_eq_true, if_false, aluV, Int.reduceEq, if_true, half_eq (R_wrap _), half_eq (R_bits _ _ _), half_eq (R_shl _ _), half_eq (R_shr _ hx), half_eq hx, half_eq hy, tdiv_R hx hy.1, tmod_R hx, tmod_R hy, if_pos hm.1, size]
      · split
        · rfl
        · first | rfl | (rw [half_eq (R_div hx hy.1)]; rfl)
      · split
        · rfl
        · first | rfl | (rw [half_eq (R_mod hx hy.1)]; rfl)
      · rw [hv]; simp only [Option.bind_some]; rw [half_eq Rv]; simp only [Option.bind_some]; rw [ev]
    · simp only [fit, if_true, size] at hx hy hm hv ev hR ⊢
      rcases ops op h with rfl | rfl | rfl | rfl | rfl | rfl | rfl | rfl | rfl | rfl | rfl | rfl | rfl
      all_goals simp only [P.word_Alu.f, lit1_eq, Option.bind_some, if_true, aluV, Int.reduceEq, if_false, tdiv_R hx hy.1, tmod_R hx, tmod_R hy, if_pos hm.1, size]
      · split <;> rfl
      · split <;> rfl
      · rw [hv]; simp only [Option.bind_some]; rw [ev]
  · rw [if_neg h]
    have h0 : op ≠ 0 := by omega
    have h1 : op ≠ 1 := by omega
    have h2 : op ≠ 2 := by omega
    have h3 : op ≠ 3 := by omega
    have h4 : op ≠ 4 := by omega
    have h5 : op ≠ 5 := by omega
    have h6 : op ≠ 6 := by omega
    have h7 : op ≠ 7 := by omega
    have h8 : op ≠ 8 := by omega
    have h9 : op ≠ 9 := by omega
    have h10 : op ≠ 10 := by omega
    have h11 : op ≠ 11 := by omega
    have h12 : op ≠ 12 := by omega
    cases w
    · simp only [P.word_Alu.f, half_eq ha, half_eq hb, Option.bind_some, Bool.false_eq_true, if_false, h0, h1, h2, h3, h4, h5, h6, h7, h8, h9, h10, h11, h12]
    · simp only [P.word_Alu.f, lit1_eq, Option.bind_some, if_true, if_false, h0, h1, h2, h3, h4, h5, h6, h7, h8, h9, h10, h11, h12]
/-- One round of the reference's loop halves the signed value. -/
theorem round64 {r : Int} (h : R r) : R (Go.bits .or .u64 (r / 2) (Go.bits .and .u64 r 9223372036854775808)) ∧ wrap64 (Go.bits .or .u64 (r / 2) (Go.bits .and .u64 r 9223372036854775808)) = wrap64 r / 2 := by
  obtain ⟨n, rfl⟩ := Int.eq_ofNat_of_zero_le h.1
  unfold R at h
  have hn : n < 18446744073709551616 := by omega
  have e1 : Go.bits .and .u64 (n : Int) 9223372036854775808 = ((n / 9223372036854775808 % 2 * 9223372036854775808 : Nat) : Int) := by
    have := u64_and_nat n 9223372036854775808 hn (by omega)
    rw [show ((9223372036854775808 : Nat) : Int) = 9223372036854775808 from rfl] at this
    rw [this, show (9223372036854775808 : Nat) = 2 ^ 63 from rfl, nat_bit]
  have e2 : (n : Int) / 2 = ((n / 2 : Nat) : Int) := rfl
  have hj : n / 2 ||| n / 9223372036854775808 % 2 * 9223372036854775808 = n / 9223372036854775808 % 2 * 9223372036854775808 + n / 2 := by
    rw [Nat.or_comm]
    exact nat_join 63 _ _ (by rw [show (2 : Nat) ^ 63 = 9223372036854775808 from rfl]; omega) (by rw [show (2 : Nat) ^ 63 = 9223372036854775808 from rfl]; omega)
  rw [e1, e2, u64_or_nat _ _ (by omega) (by omega), hj]
  unfold R wrap64
  omega
theorem round32 {r : Int} (h0 : 0 ≤ r) (h1 : r < 4294967296) : (0 ≤ Go.bits .or .u64 (r / 2) (Go.bits .and .u64 r 2147483648) ∧ Go.bits .or .u64 (r / 2) (Go.bits .and .u64 r 2147483648) < 4294967296) ∧ wrap32 (Go.bits .or .u64 (r / 2) (Go.bits .and .u64 r 2147483648)) = wrap32 r / 2 := by
  obtain ⟨n, rfl⟩ := Int.eq_ofNat_of_zero_le h0
  have hn : n < 4294967296 := by omega
  have e1 : Go.bits .and .u64 (n : Int) 2147483648 = ((n / 2147483648 % 2 * 2147483648 : Nat) : Int) := by
    have := u64_and_nat n 2147483648 (by omega) (by omega)
    rw [show ((2147483648 : Nat) : Int) = 2147483648 from rfl] at this
    rw [this, show (2147483648 : Nat) = 2 ^ 31 from rfl, nat_bit]
  have e2 : (n : Int) / 2 = ((n / 2 : Nat) : Int) := rfl
  have hj : n / 2 ||| n / 2147483648 % 2 * 2147483648 = n / 2147483648 % 2 * 2147483648 + n / 2 := by
    rw [Nat.or_comm]
    exact nat_join 31 _ _ (by rw [show (2 : Nat) ^ 31 = 2147483648 from rfl]; omega) (by rw [show (2 : Nat) ^ 31 = 2147483648 from rfl]; omega)
  rw [e1, e2, u64_or_nat _ _ (by omega) (by omega), hj]
  unfold wrap32
  omega
def top (w : Bool) : Int := if w then 9223372036854775808 else 2147483648
def In (w : Bool) (x : Int) : Prop := 0 ≤ x ∧ x < (if w then 18446744073709551616 else 4294967296)
theorem round_ (w : Bool) {r : Int} (h : In w r) : In w (Go.bits .or .u64 (r / 2) (Go.bits .and .u64 r (top w))) ∧ sg w (Go.bits .or .u64 (r / 2) (Go.bits .and .u64 r (top w))) = sg w r / 2 := by
  cases w
  · simp only [In, sg, top, Bool.false_eq_true, if_false] at *
    exact round32 h.1 h.2
  · simp only [In, sg, top, if_true] at *
    exact round64 h
theorem In_fit {w : Bool} {a : Int} (h : R a) : In w (fit w a) := by
  unfold R at h
  cases w <;> simp [In, fit] <;> omega
theorem In_R {w : Bool} {a : Int} (h : In w a) : R a := by
  cases w
  · simp only [In, Bool.false_eq_true, if_false] at h; unfold R; omega
  · exact h
theorem fit_In {w : Bool} {a : Int} (h : In w a) : fit w a = a := by
  cases w
  · simp only [In, fit, Bool.false_eq_true, if_false] at *; omega
  · rfl
theorem sg_back {w : Bool} {r x : Int} (h : In w r) (e : sg w r = x) : r = fit w (IntKind.u64.wrap x) := by
  subst e
  rw [IntKind.wrap_u64]
  cases w
  · simp only [In, fit, sg, Bool.false_eq_true, if_false] at *; unfold wrap32; omega
  · simp only [In, fit, sg, if_true] at *; unfold wrap64; omega
theorem half_pow (x : Int) (d : Nat) : x / 2 / 2 ^ d = x / 2 ^ (d + 1) := by
  rw [Int.ediv_ediv_of_nonneg (by omega), Int.pow_succ, Int.mul_comm]
theorem loop_eq (w : Bool) (d : Nat) : ∀ (k : Nat) (r i by_ : Int), In w r → 0 ≤ i → i ≤ by_ → by_ < 64 → by_ - i = d → d < k →
    P.stockaderef01_Alu.l0 k w by_ r (top w) i = some (fit w (IntKind.u64.wrap (sg w r / 2 ^ d)), 0) := by
  induction d with
  | zero =>
    intro k r i by_ hr h0 h1 h2 hd hk
    obtain ⟨k, rfl⟩ : ∃ m, k = m + 1 := ⟨k - 1, by omega⟩
    simp only [P.stockaderef01_Alu.l0]
    rw [if_neg (by omega), Fit_eq w (In_R hr)]
    simp only [Option.bind_some]
    rw [← sg_back (w := w) hr (by simp), fit_In hr]
  | succ d ih =>
    intro k r i by_ hr h0 h1 h2 hd hk
    obtain ⟨k, rfl⟩ : ∃ m, k = m + 1 := ⟨k - 1, by omega⟩
    simp only [P.stockaderef01_Alu.l0]
    obtain ⟨hr', e⟩ := round_ w hr
    rw [if_pos (by omega), wrap_R (by unfold R; omega), ih k _ (i + 1) by_ hr' (by omega) (by omega) h2 (by omega) (by omega), e, half_pow]
theorem ref_eq (op : Int) (w : Bool) {a b : Int} (ha : R a) (hb : R b) (k : Nat) (hk : 66 < k) : P.stockaderef01_Alu.f k op w a b = some (aluR op w a b) := by
  obtain ⟨k, rfl⟩ : ∃ m, k = m + 1 := ⟨k - 1, by omega⟩
  have hx := R_fit w ha
  have hy := R_fit w hb
  have hm := size_mod w (fit w b)
  have hs : size w ≠ 0 := by cases w <;> decide
  have hs0 : 0 ≤ size w := by omega
  have hs2 : size w ≤ 64 := by cases w <;> decide
  have ht : shl .u64 1 (IntKind.u64.wrap (size w - 1)) = top w := by cases w <;> decide +kernel
  have ht0 : 0 ≤ IntKind.u64.wrap (size w - 1) := by cases w <;> decide +kernel
  unfold P.stockaderef01_Alu.f aluR
  by_cases h : 0 ≤ op ∧ op ≤ 12
  · rw [if_pos h, if_neg (by omega), decide_eq_false (by omega)]
    have hl := loop_eq w (fit w b % size w).toNat k (fit w a) 0 (fit w b % size w) (In_fit ha) (by omega) (by omega) (by omega) (by omega) (by omega)
    rcases ops op h with rfl | rfl | rfl | rfl | rfl | rfl | rfl | rfl | rfl | rfl | rfl | rfl | rfl
    all_goals simp only [P.stockaderef01_Alu.j0, Fit_eq w ha, Fit_eq w hb, Size_eq, Option.bind_some, Bool.false_eq_true, if_false, aluV, Int.reduceEq, if_true, Fit_eq w (R_wrap _), Fit_eq w (R_bits _ _ _), Fit_eq w (R_shl _ _), Fit_eq w (R_shr _ hx), Fit_eq w hx, Fit_eq w hy, tdiv_R hx hy.1, tmod_R hx, tmod_R hy, if_pos hm.1, if_neg hs, ht, if_pos ht0, Fit_eq w R_zero, Fit_eq w (R_mod hx hy.1)]
    · by_cases e : fit w b = 0
      · rw [if_neg (by omega), if_pos e]
      · rw [if_pos (by have := hy.1; omega), if_neg e, if_neg e]
    · by_cases e : fit w b = 0
      · rw [if_neg (by omega), if_pos e]
      · rw [if_pos (by have := hy.1; omega), if_neg e, if_neg e]
    · exact hl
  · rw [if_neg h]
    by_cases h0 : op < 0
    · rw [if_pos h0]; rfl
    · rw [if_neg h0, decide_eq_true (by omega)]; rfl
theorem awake_eq : P.stockadelaw01_awake.f 100 = some true := by decide +kernel
end Go.Proofs.Ytgmgnlmhfhdfgaa.Wd
