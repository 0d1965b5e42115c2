/- Chapter 04: a right image, place by place. -/
import Derived.Test.YtdhiibkcoolbeaaDoorPx19
import Derived.Test.YtdhiibkcoolbeaaDoorPx16
import Derived.Test.YtdhiibkcoolbeaaDoorIt
namespace Go.Proofs.YtdhiibkcoolbeaaDoor.Pure
open Go.RowKit Go.Proofs.YtdhiibkcoolbeaaDoorW.PrintWords Go.Proofs.YtdhiibkcoolbeaaDoorW.PrintLast Go.Proofs.YtdhiibkcoolbeaaDoorW.PrintMore Go.Proofs.YtdhiibkcoolbeaaDoor.P Go.Proofs.YtdhiibkcoolbeaaDoor.Opening
set_option linter.unusedVariables false
set_option linter.unusedSimpArgs false

/-- A jump goes to where one begins. -/
def goJ (C : List S40) (i : Nat) : Prop := (ofx (rdn C i)).1 = 6 ∨ (ofx (rdn C i)).1 = 7 → 0 ≤ toF C i ∧ toF C i < C.length ∧ bgR (plC C) (toF C i).toNat = true
theorem badJ_iff {C : List S40} (hC : ∀ z ∈ C, ok40 z) (i : Nat) : badJ 40 C (stC C) i = false ↔ goJ C i := by
  unfold badJ goJ
  rw [ofF_eq hC 36, stC_len]
  by_cases c : (ofx (rdn C i)).1 = 6 ∨ (ofx (rdn C i)).1 = 7
  · have h1 : (decide ((ofx (rdn C i)).1 = 6) || decide ((ofx (rdn C i)).1 = 7)) = true := by simpa using c
    rw [h1, Bool.true_and]
    simp only [c, true_implies, Bool.or_eq_false_iff, decide_eq_false_iff_not, Bool.not_eq_false']
    constructor
    · rintro ⟨a, b, d⟩
      have h0 : 0 ≤ toF C i := by omega
      have hl : toF C i < C.length := by omega
      rw [stC_get C h0, bg_C C (by omega)] at d
      exact ⟨h0, hl, d⟩
    · rintro ⟨h0, hl, d⟩
      refine ⟨by omega, by omega, ?_⟩
      rw [stC_get C h0, bg_C C (by omega)]
      exact d
  · have h1 : (decide ((ofx (rdn C i)).1 = 6) || decide ((ofx (rdn C i)).1 = 7)) = false := by simpa [not_or] using c
    rw [h1, Bool.false_and]
    simp [c]
/-- A right image, told by its places. -/
structure RightP (M : List S52) (C : List S40) : Prop where
  pos : 0 < C.length
  le : C.length ≤ 512
  mle : M.length ≤ 4
  maps : mapsBad M = none
  alone : ∀ i, i < C.length → bgR (plC C) i = true → alE M C i = 0
  jumps : ∀ i, i < C.length → bgR (plC C) i = true → goJ C i
  last : ∀ i, i < C.length → bgR (plC C) i = true → C.length ≤ nx (plC C) i → (ofx (rdn C i)).1 = 7 ∨ (ofx (rdn C i)).1 = 9
theorem RightP.of {M : List S52} {C : List S40} (hC : ∀ z ∈ C, ok40 z) (R : Right M C) : RightP M C := by
  refine ⟨R.pos, R.le, R.mle, R.maps, fun i hi hb => R.alone i (by rw [bg_C C hi]; exact hb), fun i hi hb => (badJ_iff hC i).1 (R.jumps i (by rw [bg_C C hi]; exact hb)), fun i hi hb hn => ?_⟩
  obtain ⟨hl, hm⟩ := bg_iff.1 (show bg (plC C) C.length i = true by rw [bg_C C hi]; exact hb)
  exact R.last _ (beg_last 0 _ hm hn)
theorem RightP.to {M : List S52} {C : List S40} (hC : ∀ z ∈ C, ok40 z) (R : RightP M C) : Right M C := by
  have hb : ∀ i, bg (plC C) C.length i = true → i < C.length ∧ bgR (plC C) i = true := fun i h => by
    have hl := (bg_iff.1 h).1
    exact ⟨hl, by rw [← bg_C C hl]; exact h⟩
  refine ⟨R.pos, R.le, R.mle, R.maps, fun i h => R.alone i (hb i h).1 (hb i h).2, fun i h => (badJ_iff hC i).2 (R.jumps i (hb i h).1 (hb i h).2), fun p hp => ?_⟩
  have hm := (last_max 0 p hp).1
  have h := hb p.1 (bg_iff.2 ⟨p.2, hm⟩)
  exact R.last p.1 h.1 h.2 (last_nx hp)
theorem Check_iff {M : List S52} {C : List S40} (hC : ∀ z ∈ C, ok40 z) : ∃ v, shape_Check.f M C = some v ∧ (v.2 = 0 ↔ RightP M C) := by
  obtain ⟨v, hv⟩ := Check_some (M := M) hC
  refine ⟨v, hv, fun h => RightP.of hC (right_of hC hv h), fun R => ?_⟩
  rw [right_eq hC (R.to hC)] at hv
  obtain rfl := Option.some.inj hv
  rfl
theorem right_b {M : List S52} {C : List S40} (hC : ∀ z ∈ C, ok40 z) : ∃ b, stockadelaw04_right.f M C = some b ∧ (b = true ↔ RightP M C) := by
  obtain ⟨v, hv, hi⟩ := Check_iff (M := M) hC
  refine ⟨v.2 == 0, ?_, ?_⟩
  · unfold stockadelaw04_right.f; rw [hv]; rfl
  · rw [← hi]; simp
theorem Check_right {M : List S52} {C : List S40} (hC : ∀ z ∈ C, ok40 z) (R : RightP M C) : shape_Check.f M C = some (0, 0) := right_eq hC (R.to hC)
/-- An Exit. -/
def exI : S40 := ⟨149, 0, 0, 0, 0⟩
theorem ok_ex : ok40 exI := ⟨by decide, by decide, by decide, by decide, by decide⟩
theorem of_ex : ofx exI = (9, 0, 0, false, false, 0) := by decide +kernel
theorem pl_ex : plx exI = 1 := by decide +kernel
theorem exit_eq : stockadelaw04_exit.f = some (149, 0, 0, 0, 0) := rfl
theorem rdn_lt {C : List S40} {i : Nat} (h : i < C.length) : rdn C i = C[i] := by
  unfold rdn rd_T40
  rw [Int.toNat_natCast, List.getD_eq_getElem?_getD, List.getElem?_eq_getElem h]; rfl
theorem al_ex {M : List S52} {C : List S40} {i : Nat} (h : rdn C i = exI) : alE M C i = 0 := by
  unfold alE
  rw [h, of_ex]
  simp
/-- One map and an Exit. -/
theorem right_one {M : List S52} (h : M.length ≤ 4) : RightP M [exI] ↔ mapsBad M = none := by
  refine ⟨fun R => R.maps, fun hm => ⟨by simp, by simp, h, hm, fun i hi _ => ?_, fun i hi _ => ?_, fun i hi _ _ => ?_⟩⟩
  all_goals (have : i = 0 := by simpa using hi; ); all_goals subst this
  · exact al_ex (by rfl)
  · intro hc
    rw [show rdn [exI] 0 = exI from rfl, of_ex] at hc
    rcases hc with hc | hc <;> exact absurd hc (by decide)
  · rw [show rdn [exI] 0 = exI from rfl, of_ex]; exact .inr rfl
theorem mapsBad_app {M N : List S52} (h : mapsBad M = none) : mapsBad (M ++ N) = (mapsBad N).map (· + M.length) := by
  have hM : ∀ j, j < M.length → mayF (M ++ N) j = true := fun j hj => by
    have := List.find?_eq_none.1 h j (List.mem_range.2 hj)
    have e : mayF (M ++ N) j = mayF M j := by
      unfold mayF rd_T52
      rw [Int.toNat_natCast, List.getD_eq_getElem?_getD, List.getD_eq_getElem?_getD, List.getElem?_append_left hj]
    rw [e]; simpa using this
  have hN : ∀ j, mayF (M ++ N) (M.length + j) = mayF N j := fun j => by
    unfold mayF rd_T52
    rw [Int.toNat_natCast, Int.toNat_natCast, List.getD_eq_getElem?_getD, List.getD_eq_getElem?_getD, List.getElem?_append_right (by omega), Nat.add_sub_cancel_left]
  cases hn : mapsBad N with
  | none =>
    refine mapsBad_none fun j hj => ?_
    by_cases c : j < M.length
    · exact hM j c
    · obtain ⟨i, rfl⟩ : ∃ i, j = M.length + i := ⟨j - M.length, by omega⟩
      rw [hN]
      have := List.find?_eq_none.1 hn i (List.mem_range.2 (by simp at hj; omega))
      simpa using this
  | some i =>
    unfold mapsBad at hn
    rw [List.find?_range_eq_some] at hn
    obtain ⟨h1, h2, h3⟩ := hn
    rw [Option.map_some, Nat.add_comm]
    refine mapsBad_some (by simp at h2 ⊢; omega) (fun j hj => ?_) (by rw [hN]; simpa using h1)
    by_cases c : j < M.length
    · exact hM j c
    · obtain ⟨q, rfl⟩ : ∃ i, j = M.length + i := ⟨j - M.length, by omega⟩
      rw [hN]
      have := h3 q (by omega)
      simpa using this
end Go.Proofs.YtdhiibkcoolbeaaDoor.Pure
