/- Chapter 01: the law WordOrders: what the conditions answer, put together. -/
import Derived.Test.YtgmgnlmhfhdfgaaWo
import Derived.Test.YtgmgnlmhfhdfgaaWc
namespace Go.Proofs.Ytgmgnlmhfhdfgaa.Pure
open Go Go.RowKit Go.Proofs.YtgmgnlmhfhdfgaaW.PrintWords Go.Proofs.YtgmgnlmhfhdfgaaW.PrintLast Go.Proofs.YtgmgnlmhfhdfgaaW.PrintMore
open Go.Proofs.Ytgmgnlmhfhdfgaa.Wd
set_option linter.unusedVariables false
set_option linter.unusedSimpArgs false

theorem holds_eq (op : Int) (w : Bool) {a b : Int} (ha : R a) (hb : R b) : P.stockadelaw01_holds.f 100 op w a b = some ((condR op w a b).1, ((condR op w a b).2 == 0)) := by
  unfold P.stockadelaw01_holds.f
  rw [cond_eq 100 (by omega) op w ha hb]
  rfl
theorem fit_xor (w : Bool) {a : Int} (ha : R a) : fit w (Go.bits .xor .u64 a (top w)) = sg w (fit w a) + top w := by
  rw [← turned_eq w (In_fit ha)]
  cases w
  · obtain ⟨n, rfl⟩ := Int.eq_ofNat_of_zero_le ha.1
    have hn : n < 18446744073709551616 := by have := ha.2; omega
    simp only [fit, top, Bool.false_eq_true, if_false]
    have e : ((n : Int) % 4294967296) = ((n % 4294967296 : Nat) : Int) := by omega
    rw [show (2147483648 : Int) = ((2147483648 : Nat) : Int) from rfl, e, u64_xor_nat n _ hn (by omega), u64_xor_nat _ _ (by omega) (by omega)]
    have h := Nat.xor_mod_two_pow (a := n) (b := 2147483648) (n := 32)
    rw [show (2 : Nat) ^ 32 = 4294967296 from rfl, show (2147483648 : Nat) % 4294967296 = 2147483648 from rfl] at h
    omega
  · rfl
theorem fit_and (w : Bool) {a b : Int} (ha : R a) (hb : R b) : Go.bits .and .u64 (fit w a) (fit w b) = Go.bits .and .u64 (fit w a) b := by
  cases w
  · have hf := R_fit false ha
    have hi := In_fit (w := false) ha
    have e : fit false b = b % 4294967296 := rfl
    rw [e]
    obtain ⟨n, hn⟩ := Int.eq_ofNat_of_zero_le hf.1
    obtain ⟨m, rfl⟩ := Int.eq_ofNat_of_zero_le hb.1
    simp only [In, Bool.false_eq_true, if_false] at hi
    rw [hn] at hi ⊢
    have hm : m < 18446744073709551616 := by have := hb.2; omega
    have e2 : ((m : Int) % 4294967296) = ((m % 4294967296 : Nat) : Int) := by omega
    rw [e2, u64_and_nat n _ (by omega) (by omega), u64_and_nat n m (by omega) hm]
    have h := Nat.and_mod_two_pow (a := n) (b := m) (n := 32)
    rw [show (2 : Nat) ^ 32 = 4294967296 from rfl, Nat.mod_eq_of_lt (show n < 4294967296 by omega), Nat.mod_eq_of_lt (show n &&& m < 4294967296 from Nat.lt_of_le_of_lt Nat.and_le_left (by omega))] at h
    omega
  · rfl
theorem top_size (w : Bool) : IntKind.u64.wrap (2 ^ min (IntKind.u64.wrap (size w - 1)).toNat 64) = top w := by cases w <;> decide +kernel
theorem orders (wide : Bool) (a b : Int) (w1 : (Lit.int .u64 a).wf = true) (w2 : (Lit.int .u64 b).wf = true) (w : World) :
    Calls Try.prog 10 #[.bool wide, .int .u64 a, .int .u64 b] w fun e w' => e = .returned (.bool true) ∧ Below w.heap.size w w' := by
  have ha := R_wf w1
  have hb := R_wf w2
  have h := fun op => holds_eq op wide ha hb
  have hl := holds_eq 10 wide (R_bits .xor a (top wide)) (R_bits .xor b (top wide))
  have key : ∀ x y s t : Int, (x = y → s = t) → (s = t → x = y) →
      ((x == y) = true ∧ decide (x > y) = false ∧ decide (x < y) = false ∧ decide (s > t) = false ∧ decide (s < t) = false ∨ (x == y) = false ∧ decide (x > y) = (!decide (x < y)) ∧ decide (s > t) = (!decide (s < t))) := by
    intro x y s t h1 h2
    by_cases c : x = y
    · left
      have := h1 c
      refine ⟨by simp [c], ?_, ?_, ?_, ?_⟩ <;> simp only [decide_eq_false_iff_not] <;> omega
    · right
      have c' : ¬ s = t := fun e => c (h2 e)
      refine ⟨by simp [c], ?_, ?_⟩
      · by_cases d : x < y
        · rw [decide_eq_true d, decide_eq_false (by omega)]; rfl
        · rw [decide_eq_false d, decide_eq_true (by omega)]; rfl
      · by_cases d : s < t
        · rw [decide_eq_true d, decide_eq_false (by omega)]; rfl
        · rw [decide_eq_false d, decide_eq_true (by omega)]; rfl
  have sgi : sg wide (fit wide a) = sg wide (fit wide b) → fit wide a = fit wide b := by
    intro e
    have i1 := In_fit (w := wide) ha
    have i2 := In_fit (w := wide) hb
    rw [sg_back i1 rfl, sg_back i2 rfl, e]
  refine P.orders_calls 100 wide a b w _ _ _ _ _ _ _ _ _ _ _ (size wide) (fit wide a) awake_eq (h 1) (h 2) (h 3) (h 4) (h 5) (h 6) (h 7) (h 10) (h 11) (h 12) (h 13) ?_ ?_ ?_ ?_ ?_ ?_ ?_ ?_ (size'_eq wide) (fit'_eq wide ha)
  · exact key (fit wide a) (fit wide b) (sg wide (fit wide a)) (sg wide (fit wide b)) (fun e => by rw [e]) sgi
  · show decide (fit wide a ≥ fit wide b) = !decide (fit wide a < fit wide b)
    by_cases d : fit wide a < fit wide b
    · rw [decide_eq_true d, decide_eq_false (by omega)]; rfl
    · rw [decide_eq_false d, decide_eq_true (by omega)]; rfl
  · rfl
  · show decide (sg wide (fit wide a) ≥ sg wide (fit wide b)) = !decide (sg wide (fit wide a) < sg wide (fit wide b))
    by_cases d : sg wide (fit wide a) < sg wide (fit wide b)
    · rw [decide_eq_true d, decide_eq_false (by omega)]; rfl
    · rw [decide_eq_false d, decide_eq_true (by omega)]; rfl
  · show decide (fit wide a ≤ fit wide b) = !decide (fit wide a > fit wide b)
    by_cases d : fit wide a > fit wide b
    · rw [decide_eq_true d, decide_eq_false (by omega)]; rfl
    · rw [decide_eq_false d, decide_eq_true (by omega)]; rfl
  · show decide (sg wide (fit wide a) ≤ sg wide (fit wide b)) = !decide (sg wide (fit wide a) > sg wide (fit wide b))
    by_cases d : sg wide (fit wide a) > sg wide (fit wide b)
    · rw [decide_eq_true d, decide_eq_false (by omega)]; rfl
    · rw [decide_eq_false d, decide_eq_true (by omega)]; rfl
  · rw [top_size, hl]
    show some (decide (fit wide _ < fit wide _), true) = some (decide (_ < _), true)
    rw [fit_xor wide ha, fit_xor wide hb]
    congr 2
    exact decide_eq_decide.2 (by omega)
  · show (Go.bits .and .u64 (fit wide a) (fit wide b) != 0) = _
    rw [fit_and wide ha hb]
end Go.Proofs.Ytgmgnlmhfhdfgaa.Pure
