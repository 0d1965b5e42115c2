/- The law WordShifts over plain functions: shifting up multiplies by a power of 2, down divides, with the sign it divides as a floor does; more than the size comes round. -/
import Derived.Test.YtgmgnlmhfhdfgaaWc
import Derived.Test.YtgmgnlmhfhdfgaaPx5
namespace Go.Proofs.Ytgmgnlmhfhdfgaa.Pure
open Go Go.RowKit Go.Proofs.YtgmgnlmhfhdfgaaW.PrintWords Go.Proofs.YtgmgnlmhfhdfgaaW.PrintLast Go.Proofs.YtgmgnlmhfhdfgaaW.PrintMore
open Go.Proofs.Ytgmgnlmhfhdfgaa.Wd
theorem floor_neg (y p : Int) (hp : 0 < p) : (-(y + 1)) / p = -1 - y / p := by
  have h1 := Int.mul_ediv_add_emod y p
  have h2 := Int.emod_nonneg y (Int.ne_of_gt hp)
  have h3 := Int.emod_lt_of_pos y hp
  have e : -(y + 1) = (p - 1 - y % p) + p * (-1 - y / p) := by
    rw [Int.mul_sub]; omega
  rw [e, Int.add_mul_ediv_left _ _ (Int.ne_of_gt hp), Int.ediv_eq_zero_of_lt (by omega) (by omega), Int.zero_add]
theorem pow2lt {x y : Nat} (h : x < y) : (2 : Int) ^ x < 2 ^ y := by
  have e := Int.ofNat_lt.mpr (Nat.pow_lt_pow_right (a := 2) (by omega) h)
  rw [Int.natCast_pow, Int.natCast_pow] at e
  exact e
theorem pow_in (w : Bool) {n : Int} (h : 0 ≤ n ∧ n < size w) : shl .u64 1 n = 2 ^ n.toNat ∧ In w (2 ^ n.toNat : Int) ∧ 0 < (2 ^ n.toNat : Int) := by
  have hp : 0 < (2 ^ n.toNat : Int) := Int.pow_pos (by omega)
  have hs : n < 64 := by cases w <;> simp [size] at h <;> omega
  have hI : In w (2 ^ n.toNat : Int) := by
    cases w
    · simp only [In, size, Bool.false_eq_true, if_false] at *
      have : (2 ^ n.toNat : Int) < 2 ^ 32 := pow2lt (by omega)
      omega
    · simp only [In, size, if_true] at *
      have : (2 ^ n.toNat : Int) < 2 ^ 64 := pow2lt (by omega)
      omega
  refine ⟨?_, hI, hp⟩
  unfold shl
  rw [Int.one_mul, Nat.min_eq_left (by simp [IntKind.bits]; omega), wrap_R (In_R hI)]
theorem WordShifts (a0 : Bool) (a1 : Int) (a2 : Int) (w1 : (Lit.int .u64 a1).wf = true) (w2 : (Lit.int .u64 a2).wf = true) : ∃ k, P.stockadelaw01_WordShifts.f k a0 a1 a2 = some true := by
  have ha := R_wf w1
  have hb := R_wf w2
  generalize a1 = a at *
  generalize a2 = b at *
  generalize a0 = w at *
  refine ⟨100, ?_⟩
  have o2 : (0 : Int) ≤ 2 ∧ (2 : Int) ≤ 12 := by omega
  have o3 : (0 : Int) ≤ 3 ∧ (3 : Int) ≤ 12 := by omega
  have o6 : (0 : Int) ≤ 6 ∧ (6 : Int) ≤ 12 := by omega
  have o7 : (0 : Int) ≤ 7 ∧ (7 : Int) ≤ 12 := by omega
  have o12 : (0 : Int) ≤ 12 ∧ (12 : Int) ≤ 12 := by omega
  have hx := R_fit w ha
  have hy := R_fit w hb
  have hm := size_mod w (fit w b)
  have hs : size w ≠ 0 := by cases w <;> decide
  obtain ⟨ep, hIp, hp⟩ := pow_in w hm
  have hRp := In_R hIp
  have hf := fit_In hIp
  have hIa := In_fit (w := w) ha
  have hshift : ∀ x : Int, shr .u64 x (fit w b % size w) = x / 2 ^ (fit w b % size w).toNat := by
    intro x
    unfold shr
    rw [Nat.min_eq_left (by have : size w ≤ 64 := by cases w <;> decide
                            simp [IntKind.bits]; omega)]
  have hdiv : ∀ x : Int, In w x → In w (x / 2 ^ (fit w b % size w).toNat) := fun x h => by
    have h1 := Int.ediv_le_self (2 ^ (fit w b % size w).toNat) h.1
    exact ⟨Int.ediv_nonneg h.1 (Int.le_of_lt hp), by have := h.2; omega⟩
  have eup : A 6 w a b = A 2 w a (2 ^ (fit w b % size w).toNat) := by
    rw [A2 w ha hRp]
    show fit w (shl .u64 (fit w a) (fit w b % size w)) = _
    unfold shl
    rw [fit_wrap, fit_md w ha, Nat.min_eq_left (by have : size w ≤ 64 := by cases w <;> decide
                                                   simp [IntKind.bits]; omega), mulL]
  have edown : A 7 w a b = fit w a / 2 ^ (fit w b % size w).toNat := by
    show fit w (shr .u64 (fit w a) (fit w b % size w)) = _
    rw [hshift, fit_In (hdiv _ hIa)]
  have ediv : A 3 w a (2 ^ (fit w b % size w).toNat) = fit w a / 2 ^ (fit w b % size w).toNat := by
    show fit w (if fit w (2 ^ (fit w b % size w).toNat) = 0 then 0 else fit w a / fit w (2 ^ (fit w b % size w).toNat)) = _
    rw [hf, if_neg (Int.ne_of_gt hp), fit_In (hdiv _ hIa)]
  have ewith : A 12 w a b = (sg w (fit w a) / 2 ^ (fit w b % size w).toNat) % md w := by
    show fit w (IntKind.u64.wrap (sg w (fit w a) / 2 ^ (fit w b % size w).toNat)) = _
    rw [fit_wrap]
  have ht0 : 0 ≤ IntKind.u64.wrap (size w - 1) := by cases w <;> decide +kernel
  have htop : shr .u64 (fit w a) (IntKind.u64.wrap (size w - 1)) = fit w a / top w := by
    cases w
    · rw [show IntKind.u64.wrap (size false - 1) = 31 by decide +kernel]; rfl
    · rw [show IntKind.u64.wrap (size true - 1) = 63 by decide +kernel]; rfl
  have hna : R (18446744073709551615 - a) := by unfold R at *; omega
  have hT := R_fit w hna
  have hIT := In_fit (w := w) hna
  have hq := hdiv _ hIT
  have hRq := In_R hq
  have hnq : R (18446744073709551615 - fit w (18446744073709551615 - a) / 2 ^ (fit w b % size w).toNat) := by unfold R at *; omega
  unfold P.stockadelaw01_WordShifts.f
  simp only [awake_eq, Option.bind_some, if_true, fit'_eq w hb, size'_eq, if_neg hs, tmod_R hy, if_pos hm.1, alu'_eq 6 o6 w ha hb, alu'_eq 7 o7 w ha hb, alu'_eq 12 o12 w ha hb, ep, alu'_eq 2 o2 w ha hRp, alu'_eq 3 o3 w ha hRp, if_pos eup, edown, ediv, ewith, bne_self_eq_false]
  simp only [P.stockadelaw01_WordShifts.j0, Bool.false_eq_true, if_false, fit'_eq w ha, size'_eq, Option.bind_some, if_pos ht0, htop, not_eq ha, fit'_eq w hna, if_pos hm.1, hshift, not_eq hRq, fit'_eq w hnq]
  by_cases e : fit w a / top w = 0
  · rw [if_pos e]
    have hlt : fit w a < top w := by
      have h1 := Int.mul_ediv_add_emod (fit w a) (top w)
      have h2 := Int.emod_lt_of_pos (fit w a) (show 0 < top w by cases w <;> decide)
      rw [e] at h1; omega
    have hsg : sg w (fit w a) = fit w a := by
      have := hIa.1
      cases w
      · simp only [sg, top, Bool.false_eq_true, if_false] at *; unfold wrap32; omega
      · simp only [sg, top, if_true] at *; unfold wrap64; omega
    have hd := hdiv _ hIa
    rw [hsg, Int.emod_eq_of_lt hd.1 (by have := hd.2; cases w <;> simpa [md] using this)]
    simp
  · rw [if_neg e]
    have hge : top w ≤ fit w a := by
      rcases Int.lt_or_le (fit w a) (top w) with h | h
      · exact absurd (Int.ediv_eq_zero_of_lt hIa.1 h) e
      · exact h
    have hTv : fit w (18446744073709551615 - a) = md w - 1 - fit w a := by
      rw [fit_md w hna, fit_md w ha]
      unfold R at ha
      cases w
      · simp only [md, Bool.false_eq_true, if_false]; omega
      · simp only [md, if_true]; omega
    have hsg : sg w (fit w a) = -(fit w (18446744073709551615 - a) + 1) := by
      rw [hTv]
      have h1 := hIa.2
      cases w
      · simp only [sg, top, md, In, Bool.false_eq_true, if_false] at *; unfold wrap32; omega
      · simp only [sg, top, md, In, if_true] at *; unfold wrap64; omega
    rw [hsg, floor_neg _ _ hp, fit_md w hnq]
    have hz : ∀ z : Int, (-1 - z) % md w = (18446744073709551615 - z) % md w := by
      intro z
      cases w
      · simp only [md, Bool.false_eq_true, if_false]; omega
      · simp only [md, if_true]; omega
    rw [hz]; simp
end Go.Proofs.Ytgmgnlmhfhdfgaa.Pure
