/- The law WordHalves over plain functions: what is not wide hangs on the halves alone and is below 2 to the 32nd; sums, products and bits are the halves of the wide ones. -/
import Derived.Test.YtgmgnlmhfhdfgaaWc
import Derived.Test.YtgmgnlmhfhdfgaaPx5
namespace Go.Proofs.Ytgmgnlmhfhdfgaa.Pure
open Go Go.RowKit Go.Proofs.YtgmgnlmhfhdfgaaW.PrintWords Go.Proofs.YtgmgnlmhfhdfgaaW.PrintLast Go.Proofs.YtgmgnlmhfhdfgaaW.PrintMore
open Go.Proofs.Ytgmgnlmhfhdfgaa.Wd
theorem low_half {a : Int} (c : Int) (ha : R a) : fit false (Go.bits .or .u64 (a % 4294967296) (IntKind.u64.wrap (c * 4294967296))) = fit false a := by
  have h1 := R_mod ha (show (0 : Int) ≤ 4294967296 by omega)
  have h2 := R_wrap (c * 4294967296)
  have h3 : IntKind.u64.wrap (c * 4294967296) % 4294967296 = 0 := by rw [IntKind.wrap_u64]; omega
  generalize IntKind.u64.wrap (c * 4294967296) = y at *
  obtain ⟨n, hn⟩ := Int.eq_ofNat_of_zero_le h1.1
  obtain ⟨p, rfl⟩ := Int.eq_ofNat_of_zero_le h2.1
  unfold R at *
  rw [hn, u64_or_nat n p (by omega) (by omega)]
  simp only [fit, Bool.false_eq_true, if_false]
  have e := Nat.or_mod_two_pow (a := n) (b := p) (n := 32)
  rw [show (2 : Nat) ^ 32 = 4294967296 from rfl] at e
  have hp : p % 4294967296 = 0 := by omega
  have hn' : n % 4294967296 = n := by omega
  rw [hp, hn', Nat.or_zero] at e
  omega
theorem half_bits (op : Bool) {a b : Int} (ha : R a) (hb : R b) : Go.bits (if op then .or else .and) .u64 (a % 4294967296) (b % 4294967296) = Go.bits (if op then .or else .and) .u64 a b % 4294967296 := by
  obtain ⟨n, rfl⟩ := Int.eq_ofNat_of_zero_le ha.1
  obtain ⟨p, rfl⟩ := Int.eq_ofNat_of_zero_le hb.1
  unfold R at *
  have e1 : ((n : Int) % 4294967296) = ((n % 4294967296 : Nat) : Int) := rfl
  have e2 : ((p : Int) % 4294967296) = ((p % 4294967296 : Nat) : Int) := rfl
  rw [e1, e2]
  cases op
  · simp only [Bool.false_eq_true, if_false]
    rw [u64_and_nat n p (by omega) (by omega), u64_and_nat _ _ (by omega) (by omega)]
    have e := Nat.and_mod_two_pow (a := n) (b := p) (n := 32)
    rw [show (2 : Nat) ^ 32 = 4294967296 from rfl] at e
    omega
  · simp only [if_true]
    rw [u64_or_nat n p (by omega) (by omega), u64_or_nat _ _ (by omega) (by omega)]
    have e := Nat.or_mod_two_pow (a := n) (b := p) (n := 32)
    rw [show (2 : Nat) ^ 32 = 4294967296 from rfl] at e
    omega
theorem half_xor {a b : Int} (ha : R a) (hb : R b) : Go.bits .xor .u64 (a % 4294967296) (b % 4294967296) = Go.bits .xor .u64 a b % 4294967296 := by
  obtain ⟨n, rfl⟩ := Int.eq_ofNat_of_zero_le ha.1
  obtain ⟨p, rfl⟩ := Int.eq_ofNat_of_zero_le hb.1
  unfold R at *
  have e1 : ((n : Int) % 4294967296) = ((n % 4294967296 : Nat) : Int) := rfl
  have e2 : ((p : Int) % 4294967296) = ((p % 4294967296 : Nat) : Int) := rfl
  rw [e1, e2, u64_xor_nat n p (by omega) (by omega), u64_xor_nat _ _ (by omega) (by omega)]
  have e := Nat.xor_mod_two_pow (a := n) (b := p) (n := 32)
  rw [show (2 : Nat) ^ 32 = 4294967296 from rfl] at e
  omega
theorem halves (op : Int) (h : op = 0 ∨ op = 1 ∨ op = 2 ∨ op = 4 ∨ op = 5 ∨ op = 8 ∨ op = 10 ∨ op = 11) {a b : Int} (ha : R a) (hb : R b) : A op false a b = A op true a b % 4294967296 := by
  rcases h with rfl | rfl | rfl | rfl | rfl | rfl | rfl | rfl
  · rw [A0 _ ha hb, A0 _ ha hb]; simp only [md, Bool.false_eq_true, if_false, if_true]; omega
  · rw [A1 _ ha hb, A1 _ ha hb]; simp only [md, Bool.false_eq_true, if_false, if_true]; omega
  · rw [A2 _ ha hb, A2 _ ha hb]; simp only [md, Bool.false_eq_true, if_false, if_true]; generalize a * b = z; omega
  · rw [A4 _ ha hb, A4 _ ha hb]; exact half_bits true ha hb
  · rw [A5 _ ha hb, A5 _ ha hb]; exact half_bits false ha hb
  · rw [A8 _ b ha, A8 _ b ha]; simp only [md, Bool.false_eq_true, if_false, if_true]; omega
  · rw [A10 _ ha hb, A10 _ ha hb]; exact half_xor ha hb
  · rw [A11 _ a hb, A11 _ a hb]; rfl
theorem WordHalves (a0_0 : Int) (a0_1 : Bool) (a0_2 : Int) (a0_3 : Int) (a1 : Int) (a2 : Int) (_w0_0 : (Lit.int .i64 a0_0).wf = true) (w0_2 : (Lit.int .u64 a0_2).wf = true) (w0_3 : (Lit.int .u64 a0_3).wf = true) (_w1 : (Lit.int .u64 a1).wf = true) (_w2 : (Lit.int .u64 a2).wf = true) : ∃ k, P.stockadelaw01_WordHalves.f k a0_0 a0_1 a0_2 a0_3 a1 a2 = some true := by
  have ha := R_wf w0_2
  have hb := R_wf w0_3
  generalize a0_2 = a at *
  generalize a0_3 = b at *
  generalize a0_0 = op at *
  refine ⟨100, ?_⟩
  have e1 : aluR op false (Go.bits .or .u64 (a % 4294967296) (IntKind.u64.wrap (a1 * 4294967296))) (Go.bits .or .u64 (b % 4294967296) (IntKind.u64.wrap (a2 * 4294967296))) = aluR op false a b := by
    unfold aluR
    rw [low_half a1 ha, low_half a2 hb]
  unfold P.stockadelaw01_WordHalves.f
  simp only [awake_eq, Option.bind_some, if_true, alu_eq op false ha hb, half'_eq ha, half'_eq hb, alu_eq op false (R_bits _ _ _) (R_bits _ _ _), e1]
  by_cases h : 0 ≤ op ∧ op ≤ 12
  · have hv : aluR op false a b = (A op false a b, 0) := by unfold aluR A; rw [if_pos h]
    have hI := In_A op false ha hb
    rw [hv]
    simp only [if_true]
    rw [if_neg (by have := hI.2; simp at this; omega)]
    simp only [P.stockadelaw01_WordHalves.j0, Bool.false_eq_true, if_false, if_true, P.stockadelaw01_WordHalves.j1]
    by_cases c3 : op = 3
    · rw [if_pos c3]
    rw [if_neg c3]
    by_cases c9 : op = 9
    · rw [if_pos c9]
    rw [if_neg c9]
    by_cases c6 : op = 6
    · rw [if_pos c6]
    rw [if_neg c6]
    by_cases c7 : op = 7
    · rw [if_pos c7]
    rw [if_neg c7]
    by_cases c12 : op = 12
    · rw [if_pos (by simp [c12])]
    rw [if_neg (by simpa using c12), alu'_eq op h true ha hb]
    simp only [Option.bind_some]
    rw [half'_eq (R_A op true ha hb), ← halves op (by omega) ha hb]
    simp
  · have hv : aluR op false a b = (0, 20) := by unfold aluR; rw [if_neg h]
    rw [hv]
    simp [P.stockadelaw01_WordHalves.j0, P.stockadelaw01_WordHalves.j1]
end Go.Proofs.Ytgmgnlmhfhdfgaa.Pure
