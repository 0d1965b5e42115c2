/- Chapter 04: the document's Starts comes to the same list. -/
import Derived.Test.YtdhiibkcoolbeaaDoorPx12
import Derived.Test.YtdhiibkcoolbeaaDoorIq
import Derived.Test.YtdhiibkcoolbeaaDoorId
namespace Go.Proofs.YtdhiibkcoolbeaaDoor.Pure
open Go.RowKit Go.Proofs.YtdhiibkcoolbeaaDoorW.PrintWords Go.Proofs.YtdhiibkcoolbeaaDoorW.PrintLast Go.Proofs.YtdhiibkcoolbeaaDoorW.PrintMore Go.Proofs.YtdhiibkcoolbeaaDoor.P Go.Proofs.YtdhiibkcoolbeaaDoor.Opening
set_option linter.unusedVariables false
set_option linter.unusedSimpArgs false

section
variable {pl : Nat → Int} {n : Nat}
theorem bg_zero (h : 0 < n) : bg pl n 0 = true := bg_iff.2 ⟨h, beg_zero h⟩
theorem bg_one {i : Nat} (h : bg pl n i = true) (hx : nx pl i = i + 1) (hn : i + 1 < n) : bg pl n (i + 1) = true := by
  obtain ⟨hl, hm⟩ := bg_iff.1 h
  have h2 : nx pl i < n := by omega
  have := beg_next _ _ hm h2
  exact bg_iff.2 ⟨hn, by simpa only [hx] using this⟩
theorem bg_two {i : Nat} (h : bg pl n i = true) (hx : nx pl i = i + 2) (hn : i + 2 < n) : bg pl n (i + 2) = true := by
  obtain ⟨hl, hm⟩ := bg_iff.1 h
  have h2 : nx pl i < n := by omega
  have := beg_next _ _ hm h2
  exact bg_iff.2 ⟨hn, by simpa only [hx] using this⟩
theorem bg_mid {i : Nat} (h : bg pl n i = true) (hx : nx pl i = i + 2) : bg pl n (i + 1) = false := by
  cases hb : bg pl n (i + 1) with
  | false => rfl
  | true =>
    obtain ⟨_, m1⟩ := bg_iff.1 h
    obtain ⟨_, m2⟩ := bg_iff.1 hb
    have := beg_gap _ _ m1 _ m2 (by simp)
    simp at this
    omega
theorem bg_cases (h2 : ∀ i, nx pl i = i + 1 ∨ nx pl i = i + 2) : ∀ i, i < n → bg pl n i = true ∨ ∃ j, i = j + 1 ∧ bg pl n j = true ∧ nx pl j = j + 2
  | 0, h => .inl (bg_zero h)
  | i + 1, h => by
    rcases bg_cases h2 i (by omega) with hb | ⟨j, rfl, hb, hx⟩
    · rcases h2 i with e | e
      · exact .inl (bg_one hb e h)
      · exact .inr ⟨i, rfl, hb, e⟩
    · exact .inl (bg_two hb hx h)
/-- Behind a place at which none begins, one begins. -/
theorem bg_after (h2 : ∀ i, nx pl i = i + 1 ∨ nx pl i = i + 2) {i : Nat} (hi : i + 1 < n) (hb : bg pl n i = false) : bg pl n (i + 1) = true := by
  rcases bg_cases (n := n) h2 i (by omega) with h | ⟨j, rfl, h, hx⟩
  · rw [hb] at h; exact absurd h (by decide)
  · exact bg_two h hx hi
end
theorem nxC (C : List S40) (i : Nat) : nx (plC C) i = i + 1 ∨ nx (plC C) i = i + 2 := by
  unfold nx plC mx
  rcases plx_le (rdn C i) with e | e | e <;> rw [e] <;> simp
theorem nxC_two (C : List S40) (i : Nat) : nx (plC C) i = i + 2 ↔ plx (rdn C i) = 2 := by
  unfold nx plC mx
  rcases plx_le (rdn C i) with e | e | e <;> rw [e] <;> simp
def stL (C : List S40) (i : Nat) : List Bool := (List.range i).map fun j => bg (plC C) C.length j
theorem stL_len (C : List S40) (i : Nat) : (stL C i).length = i := by simp [stL]
theorem stL_succ (C : List S40) (i : Nat) : stL C (i + 1) = stL C i ++ [bg (plC C) C.length i] := by simp [stL, List.range_succ]
theorem stL_all (C : List S40) : stL C C.length = stC C := by
  apply List.ext_getElem?
  intro j
  by_cases hj : j < C.length
  · have h1 : (stC C).getD j false = bg (plC C) C.length j := by
      have := stC_get C (i := (j : Int)) (by omega)
      rw [Int.toNat_natCast] at this
      rw [← this]; rfl
    have hl : j < (stC C).length := by rw [stC_len]; exact hj
    rw [List.getD_eq_getElem?_getD, List.getElem?_eq_getElem hl, Option.getD_some] at h1
    rw [List.getElem?_eq_getElem hl, h1]
    simp [stL, hj]
  · rw [List.getElem?_eq_none (by rw [stL_len]; omega), List.getElem?_eq_none (by rw [stC_len]; omega)]
theorem refPl_at {x : S40} (h : ok40 x) (k : Nat) : stockaderef02_Places.f (k + 200) x.f0 x.f1 x.f2 x.f3 x.f4 = some (plx x) := by
  obtain ⟨⟨h0, h1⟩, ⟨d0, _⟩, ⟨s0, s1⟩, _, ⟨i0, i1⟩⟩ := ok40_open h
  exact refPlaces_eq k h0 h1 d0 s0 s1 i0 i1
theorem refOf_at {x : S40} (h : ok40 x) (k : Nat) : stockaderef02_Of.f (k + 200) x.f0 x.f1 x.f2 x.f3 x.f4 = some (ofx x) := by
  obtain ⟨⟨h0, h1⟩, ⟨d0, _⟩, ⟨s0, s1⟩, _, ⟨i0, i1⟩⟩ := ok40_open h
  exact refOf_eq k h0 h1 d0 s0 s1 i0 i1
theorem refStarts_l0 {C : List S40} (h : ∀ z ∈ C, ok40 z) (hl : C.length < 140737488355328) : ∀ (m i k : Nat) (b : Bool), C.length - i = m → i ≤ C.length → (i < C.length → b = !(bg (plC C) C.length i)) →
    stockaderef04_Starts.l0 (m + 201 + k) C (stL C i) b (i : Int) = some (stC C)
  | 0, i, k, b, hm, hi, hb => by
    rw [show 0 + 201 + k = (200 + k) + 1 by omega]
    unfold stockaderef04_Starts.l0
    rw [if_neg (by omega), show i = C.length by omega, stL_all]
  | m + 1, i, k, b, hm, hi, hb => by
    have hil : i < C.length := by omega
    obtain rfl := hb hil
    have hw : wrap64 ((i : Int) + 1) = ((i + 1 : Nat) : Int) := by rw [fitW (by omega) (by omega)]; rfl
    have ih := fun b => refStarts_l0 h hl m (i + 1) k b (by omega) (by omega)
    rw [show m + 1 + 201 + k = (m + 201 + k) + 1 by omega]
    unfold stockaderef04_Starts.l0
    rw [if_pos (by omega), if_pos (by rw [stL_len]; omega), Option.bind_some, hw]
    have he : ([!(!(bg (plC C) C.length i))] : List Bool) = [bg (plC C) C.length i] := by simp
    rw [he, ← stL_succ]
    cases hbi : bg (plC C) C.length i with
    | false =>
      rw [if_pos (by rfl)]
      exact ih false (fun hlt => by rw [bg_after (nxC C) hlt hbi]; rfl)
    | true =>
      rw [if_neg (by simp), if_pos (by omega)]
      have hp := refPl_at (ok_rd h (i : Int)) (m + 1 + k)
      rw [show m + 1 + k + 200 = m + 201 + k by omega] at hp
      rw [hp, Option.bind_some]
      refine ih _ (fun hlt => ?_)
      have e2 := nxC_two C i
      rcases nxC C i with e | e
      · rw [bg_one hbi e hlt]
        have : ¬ plx (rd_T40 C (i : Int)) = 2 := fun h2 => by have := e2.2 h2; omega
        simpa using this
      · rw [bg_mid hbi e]
        have : plx (rd_T40 C (i : Int)) = 2 := e2.1 e
        simpa using this
theorem refStarts_eq {C : List S40} (h : ∀ z ∈ C, ok40 z) (hl : C.length < 140737488355328) (k : Nat) : stockaderef04_Starts.f (C.length + 201 + k) C = some (stC C) := by
  unfold stockaderef04_Starts.f
  refine refStarts_l0 h hl C.length 0 k false (by omega) (by omega) (fun h0 => by rw [bg_zero h0]; rfl)
theorem refHelper_eq (n : Int) : stockaderef04_Helper.f n = some (helpB n) := by
  unfold stockaderef04_Helper.f helpB
  repeat' split
  all_goals first | (simp_all; done) | (simp_all; rfl)
end Go.Proofs.YtdhiibkcoolbeaaDoor.Pure
