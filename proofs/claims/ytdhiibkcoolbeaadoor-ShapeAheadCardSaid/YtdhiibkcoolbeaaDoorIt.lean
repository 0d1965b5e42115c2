/- Chapter 04: where instructions begin, place by place; what Check answers, case by case. -/
import Derived.Test.YtdhiibkcoolbeaaDoorIq
namespace Go.Proofs.YtdhiibkcoolbeaaDoor.Pure
open Go.RowKit Go.Proofs.YtdhiibkcoolbeaaDoorW.PrintWords Go.Proofs.YtdhiibkcoolbeaaDoorW.PrintLast Go.Proofs.YtdhiibkcoolbeaaDoorW.PrintMore Go.Proofs.YtdhiibkcoolbeaaDoor.P Go.Proofs.YtdhiibkcoolbeaaDoor.Opening
set_option linter.unusedVariables false
set_option linter.unusedSimpArgs false

section
variable {pl : Nat → Int} {n : Nat}
theorem bg_zero (h : 0 < n) : bg pl n 0 = true := bg_iff.2 ⟨h, beg_zero h⟩
theorem bg_one {i : Nat} (h : bg pl n i = true) (hx : nx pl i = i + 1) (hn : i + 1 < n) : bg pl n (i + 1) = true := by
  obtain ⟨hl, hm⟩ := bg_iff.1 h
  have h2 : nx pl i < n := by omega
  have := beg_next _ _ hm h2
  exact bg_iff.2 ⟨hn, by simpa only [hx] using this⟩
theorem bg_two {i : Nat} (h : bg pl n i = true) (hx : nx pl i = i + 2) (hn : i + 2 < n) : bg pl n (i + 2) = true := by
  obtain ⟨hl, hm⟩ := bg_iff.1 h
  have h2 : nx pl i < n := by omega
  have := beg_next _ _ hm h2
  exact bg_iff.2 ⟨hn, by simpa only [hx] using this⟩
theorem bg_mid {i : Nat} (h : bg pl n i = true) (hx : nx pl i = i + 2) : bg pl n (i + 1) = false := by
  cases hb : bg pl n (i + 1) with
  | false => rfl
  | true =>
    obtain ⟨_, m1⟩ := bg_iff.1 h
    obtain ⟨_, m2⟩ := bg_iff.1 hb
    have := beg_gap _ _ m1 _ m2 (by simp)
    simp at this
    omega
theorem bg_cases (h2 : ∀ i, nx pl i = i + 1 ∨ nx pl i = i + 2) : ∀ i, i < n → bg pl n i = true ∨ ∃ j, i = j + 1 ∧ bg pl n j = true ∧ nx pl j = j + 2
  | 0, h => .inl (bg_zero h)
  | i + 1, h => by
    rcases bg_cases h2 i (by omega) with hb | ⟨j, rfl, hb, hx⟩
    · rcases h2 i with e | e
      · exact .inl (bg_one hb e h)
      · exact .inr ⟨i, rfl, hb, e⟩
    · exact .inl (bg_two hb hx h)
/-- Behind a place at which none begins, one begins. -/
theorem bg_after (h2 : ∀ i, nx pl i = i + 1 ∨ nx pl i = i + 2) {i : Nat} (hi : i + 1 < n) (hb : bg pl n i = false) : bg pl n (i + 1) = true := by
  rcases bg_cases (n := n) h2 i (by omega) with h | ⟨j, rfl, h, hx⟩
  · rw [hb] at h; exact absurd h (by decide)
  · exact bg_two h hx hi
end
theorem nxC (C : List S40) (i : Nat) : nx (plC C) i = i + 1 ∨ nx (plC C) i = i + 2 := by
  unfold nx plC mx
  rcases plx_le (rdn C i) with e | e | e <;> rw [e] <;> simp
theorem nxC_two (C : List S40) (i : Nat) : nx (plC C) i = i + 2 ↔ plx (rdn C i) = 2 := by
  unfold nx plC mx
  rcases plx_le (rdn C i) with e | e | e <;> rw [e] <;> simp
/-- Does one begin there, told from the left? -/
def bgR (pl : Nat → Int) : Nat → Bool
  | 0 => true
  | i + 1 => !(bgR pl i) || decide (nx pl i = i + 1)
theorem bg_R {pl : Nat → Int} {n : Nat} (h2 : ∀ i, nx pl i = i + 1 ∨ nx pl i = i + 2) : ∀ i, i < n → bg pl n i = bgR pl i
  | 0, h => bg_zero h
  | i + 1, h => by
    have ih := bg_R (n := n) h2 i (by omega)
    unfold bgR
    rw [← ih]
    cases hb : bg pl n i with
    | false => rw [bg_after h2 h hb]; rfl
    | true =>
      rcases h2 i with e | e
      · rw [bg_one hb e h]; simp [e]
      · rw [bg_mid hb e]; simp [e]
theorem bg_C (C : List S40) {i : Nat} (h : i < C.length) : bg (plC C) C.length i = bgR (plC C) i := bg_R (nxC C) i h
theorem bgR_congr {pl pl' : Nat → Int} : ∀ i, (∀ j, j < i → bgR pl j = true → pl j = pl' j) → bgR pl i = bgR pl' i
  | 0, _ => rfl
  | i + 1, h => by
    have ih := bgR_congr i (fun j hj => h j (by omega))
    unfold bgR
    cases hb : bgR pl i with
    | false => rw [hb] at ih; rw [← ih]; rfl
    | true =>
      have e := h i (by omega) hb
      rw [hb] at ih
      rw [← ih]
      have : nx pl i = nx pl' i := by unfold nx; rw [e]
      rw [this]
section
variable {pl : Nat → Int} {n : Nat}
theorem find_first {f : Fin n → Bool} (i : Nat) : ∀ p, (beg pl n i).find? f = some p → p ∈ beg pl n i ∧ f p = true ∧ ∀ q ∈ beg pl n i, q.1 < p.1 → f q = false := by
  refine beg_ind (q := fun i l => ∀ p, l.find? f = some p → p ∈ l ∧ f p = true ∧ ∀ q ∈ l, q.1 < p.1 → f q = false) (fun i _ p hp => by simp at hp) (fun i h ih p hp => ?_) i
  rw [List.find?_cons] at hp
  cases hf : f ⟨i, h⟩ with
  | true =>
    rw [hf] at hp
    obtain rfl := Option.some.inj hp
    refine ⟨List.mem_cons_self, hf, fun q hq hlt => ?_⟩
    rcases List.mem_cons.1 hq with rfl | hq
    · exact absurd hlt (Nat.lt_irrefl _)
    · have := beg_le _ q hq; have := nx_gt (pl := pl) i; simp at hlt; omega
  | false =>
    rw [hf] at hp
    obtain ⟨h1, h2, h3⟩ := ih p hp
    refine ⟨List.mem_cons_of_mem _ h1, h2, fun q hq hlt => ?_⟩
    rcases List.mem_cons.1 hq with rfl | hq
    · exact hf
    · exact h3 q hq hlt
theorem first_find {f : Fin n → Bool} {p : Fin n} (i : Nat) (hp : p ∈ beg pl n i) (hf : f p = true) (hq : ∀ q ∈ beg pl n i, q.1 < p.1 → f q = false) : (beg pl n i).find? f = some p := by
  cases h : (beg pl n i).find? f with
  | none => have := List.find?_eq_none.1 h p hp; exact absurd hf this
  | some r =>
    obtain ⟨h1, h2, h3⟩ := find_first i r h
    rcases Nat.lt_trichotomy r.1 p.1 with c | c | c
    · rw [hq r h1 c] at h2; exact absurd h2 (by decide)
    · rw [Fin.ext c]
    · rw [h3 p hp c] at hf; exact absurd hf (by decide)
theorem last_max (i : Nat) : ∀ p, (beg pl n i).getLast? = some p → p ∈ beg pl n i ∧ ∀ q ∈ beg pl n i, q.1 ≤ p.1 := by
  refine beg_ind (q := fun i l => ∀ p, l.getLast? = some p → p ∈ l ∧ ∀ q ∈ l, q.1 ≤ p.1) (fun i _ p hp => by simp at hp) (fun i h ih p hp => ?_) i
  rw [List.getLast?_cons] at hp
  cases hl : (beg pl n (nx pl i)).getLast? with
  | none =>
    rw [hl] at hp
    obtain rfl := Option.some.inj hp
    have : beg pl n (nx pl i) = [] := List.getLast?_eq_none_iff.1 hl
    rw [this]
    exact ⟨List.mem_cons_self, fun q hq => by rcases List.mem_cons.1 hq with rfl | hq; exact Nat.le_refl _; simp at hq⟩
  | some r =>
    rw [hl] at hp
    obtain rfl := Option.some.inj hp
    obtain ⟨h1, h2⟩ := ih _ hl
    refine ⟨List.mem_cons_of_mem _ h1, fun q hq => ?_⟩
    rcases List.mem_cons.1 hq with rfl | hq
    · have := beg_le _ _ h1; have := nx_gt (pl := pl) i; simp; omega
    · exact h2 q hq
theorem last_nx {p : Fin n} (h : (beg pl n 0).getLast? = some p) : n ≤ nx pl p.1 := by
  obtain ⟨h1, h2⟩ := last_max 0 p h
  refine Decidable.byContradiction fun hn => ?_
  have hlt : nx pl p.1 < n := by omega
  have := h2 _ (beg_next 0 p h1 hlt)
  have := nx_gt (pl := pl) p.1
  simp at *
  omega
end
theorem split_first {pl : Nat → Int} {n : Nat} (f : Nat → Bool) : (∃ i, bg pl n i = true ∧ f i = true ∧ ∀ j, j < i → bg pl n j = true → f j = false) ∨ ∀ j, bg pl n j = true → f j = false := by
  cases hj : (beg pl n 0).find? fun p => f p.1 with
  | some p =>
    obtain ⟨h1, h2, h3⟩ := find_first 0 p hj
    exact .inl ⟨p.1, bg_iff.2 ⟨p.2, h1⟩, h2, fun j hlt hb => by obtain ⟨hl, hmem⟩ := bg_iff.1 hb; exact h3 _ hmem hlt⟩
  | none =>
    refine .inr fun j hb => ?_
    obtain ⟨hl, hmem⟩ := bg_iff.1 hb
    have := List.find?_eq_none.1 hj _ hmem
    simpa using this
/-- The last place at which one begins. -/
theorem last_some {C : List S40} (h : 0 < C.length) : ∃ p, (beg (plC C) C.length 0).getLast? = some p :=
  ⟨_, List.getLast?_eq_some_getLast (by rw [beg_lt h]; simp)⟩
section
variable {M : List S52} {C : List S40}
theorem Check_maps (hC : ∀ z ∈ C, ok40 z) (h0 : 0 < C.length) (h1 : C.length ≤ 512) (h2 : M.length ≤ 4) {i : Nat} (hm : mapsBad M = some i) : shape_Check.f M C = some ((i : Int), 26) := by
  unfold shape_Check.f checkK
  rw [if_neg (by omega), if_neg (by omega), if_pos ⟨plAll_ok hC 36, alAll_ok hC (by omega) 36, ofAll_ok hC 36, mayAll_ok M⟩]
  unfold checkV
  rw [hm]
theorem Check_alone (hC : ∀ z ∈ C, ok40 z) (h1 : C.length ≤ 512) (h2 : M.length ≤ 4) (hm : mapsBad M = none) {i : Nat} (hb : bg (plC C) C.length i = true) (ha : alE M C i ≠ 0) (hp : ∀ j, j < i → bg (plC C) C.length j = true → alE M C j = 0) : shape_Check.f M C = some ((i : Int), alE M C i) := by
  obtain ⟨hl, hmem⟩ := bg_iff.1 hb
  unfold shape_Check.f checkK
  rw [if_neg (by omega), if_neg (by omega), if_pos ⟨plAll_ok hC 36, alAll_ok hC (by omega) 36, ofAll_ok hC 36, mayAll_ok M⟩]
  unfold checkV
  rw [hm, plF_fun hC 36]
  dsimp only
  have hf : ((beg (plC C) C.length 0).find? fun p => decide ((alF 40 M C p.1).2.2.2.2.2 ≠ 0)) = some ⟨i, hl⟩ := by
    refine first_find 0 hmem ?_ (fun q hq hlt => ?_)
    · rw [alF_eq hC (by omega) 36 i hl]; exact decide_eq_true ha
    · rw [alF_eq hC (by omega) 36 q.1 q.2]
      exact decide_eq_false (fun hn => hn (hp q.1 hlt (bg_iff.2 ⟨q.2, hq⟩)))
  rw [hf]
  dsimp only
  rw [alF_eq hC (by omega) 36 i hl]; rfl
theorem Check_jump (hC : ∀ z ∈ C, ok40 z) (h1 : C.length ≤ 512) (h2 : M.length ≤ 4) (hm : mapsBad M = none) (ha : ∀ j, bg (plC C) C.length j = true → alE M C j = 0) {i : Nat} (hb : bg (plC C) C.length i = true) (hj : badJ 40 C (stC C) i = true) (hp : ∀ j, j < i → bg (plC C) C.length j = true → badJ 40 C (stC C) j = false) : shape_Check.f M C = some ((i : Int), 24) := by
  obtain ⟨hl, hmem⟩ := bg_iff.1 hb
  unfold shape_Check.f checkK
  rw [if_neg (by omega), if_neg (by omega), if_pos ⟨plAll_ok hC 36, alAll_ok hC (by omega) 36, ofAll_ok hC 36, mayAll_ok M⟩]
  unfold checkV
  rw [hm, plF_fun hC 36]
  dsimp only
  have hf : ((beg (plC C) C.length 0).find? fun p => decide ((alF 40 M C p.1).2.2.2.2.2 ≠ 0)) = none := by
    rw [List.find?_eq_none]
    intro p hp'
    rw [alF_eq hC (by omega) 36 p.1 p.2]
    exact fun hd => (of_decide_eq_true hd) (ha p.1 (bg_iff.2 ⟨p.2, hp'⟩))
  have hg : ((beg (plC C) C.length 0).find? fun p => badJ 40 C (marks (beg (plC C) C.length 0)) p.1) = some ⟨i, hl⟩ :=
    first_find 0 hmem hj (fun q hq hlt => hp q.1 hlt (bg_iff.2 ⟨q.2, hq⟩))
  rw [hf]
  dsimp only
  rw [hg]
theorem Check_fall (hC : ∀ z ∈ C, ok40 z) (h1 : C.length ≤ 512) (h2 : M.length ≤ 4) (hm : mapsBad M = none) (ha : ∀ j, bg (plC C) C.length j = true → alE M C j = 0) (hj : ∀ j, bg (plC C) C.length j = true → badJ 40 C (stC C) j = false) {p : Fin C.length} (hp : (beg (plC C) C.length 0).getLast? = some p) (h7 : (ofx (rdn C p.1)).1 ≠ 7) (h9 : (ofx (rdn C p.1)).1 ≠ 9) : shape_Check.f M C = some ((p.1 : Int), 25) := by
  have hl := p.2
  unfold shape_Check.f checkK
  rw [if_neg (by omega), if_neg (by omega), if_pos ⟨plAll_ok hC 36, alAll_ok hC (by omega) 36, ofAll_ok hC 36, mayAll_ok M⟩]
  unfold checkV
  rw [hm, plF_fun hC 36]
  dsimp only
  have hf : ((beg (plC C) C.length 0).find? fun p => decide ((alF 40 M C p.1).2.2.2.2.2 ≠ 0)) = none := by
    rw [List.find?_eq_none]
    intro p hp'
    rw [alF_eq hC (by omega) 36 p.1 p.2]
    exact fun hd => (of_decide_eq_true hd) (ha p.1 (bg_iff.2 ⟨p.2, hp'⟩))
  have hg : ((beg (plC C) C.length 0).find? fun p => badJ 40 C (marks (beg (plC C) C.length 0)) p.1) = none := by
    rw [List.find?_eq_none]
    intro p hp'
    have := hj p.1 (bg_iff.2 ⟨p.2, hp'⟩)
    simpa [stC] using this
  rw [hf]
  dsimp only
  rw [hg]
  dsimp only
  simp only [hp, Option.map_some, Option.getD_some, alF_eq hC (show C.length < 9223372036854775807 by omega) 36 p.1 p.2]
  rw [if_pos (by simp [alX, h7, h9])]
theorem Check_short (h0 : C.length = 0) : shape_Check.f M C = some (0, 4) := by
  unfold shape_Check.f checkK
  rw [if_pos h0]
theorem Check_long (h0 : C.length ≠ 0) (h : C.length > 512 ∨ M.length > 4) : shape_Check.f M C = some (0, 3) := by
  unfold shape_Check.f checkK
  rw [if_neg h0, if_pos h]
/-- Every case of Check. -/
theorem Check_all (hC : ∀ z ∈ C, ok40 z) :
    C.length = 0 ∨ (C.length ≠ 0 ∧ (C.length > 512 ∨ M.length > 4)) ∨
    0 < C.length ∧ C.length ≤ 512 ∧ M.length ≤ 4 ∧ ((∃ i, mapsBad M = some i) ∨
      mapsBad M = none ∧ ((∃ i, bg (plC C) C.length i = true ∧ alE M C i ≠ 0 ∧ ∀ j, j < i → bg (plC C) C.length j = true → alE M C j = 0) ∨
        (∀ j, bg (plC C) C.length j = true → alE M C j = 0) ∧ ((∃ i, bg (plC C) C.length i = true ∧ badJ 40 C (stC C) i = true ∧ ∀ j, j < i → bg (plC C) C.length j = true → badJ 40 C (stC C) j = false) ∨
          (∀ j, bg (plC C) C.length j = true → badJ 40 C (stC C) j = false) ∧ ∃ p, (beg (plC C) C.length 0).getLast? = some p))) := by
  by_cases c0 : C.length = 0
  · exact .inl c0
  by_cases c1 : C.length > 512 ∨ M.length > 4
  · exact .inr (.inl ⟨c0, c1⟩)
  refine .inr (.inr ⟨by omega, by omega, by omega, ?_⟩)
  cases hm : mapsBad M with
  | some i => exact .inl ⟨i, rfl⟩
  | none =>
    refine .inr ⟨rfl, ?_⟩
    rcases split_first (pl := plC C) (n := C.length) (fun i => decide (alE M C i ≠ 0)) with ⟨i, h1, h2, h3⟩ | h
    · exact .inl ⟨i, h1, of_decide_eq_true h2, fun j hj hb => Decidable.byContradiction fun hne => (of_decide_eq_false (h3 j hj hb)) hne⟩
    · refine .inr ⟨fun j hb => Decidable.byContradiction fun hne => (of_decide_eq_false (h j hb)) hne, ?_⟩
      rcases split_first (pl := plC C) (n := C.length) (badJ 40 C (stC C)) with h | h
      · exact .inl h
      · exact .inr ⟨h, last_some (by omega)⟩
end
end Go.Proofs.YtdhiibkcoolbeaaDoor.Pure
