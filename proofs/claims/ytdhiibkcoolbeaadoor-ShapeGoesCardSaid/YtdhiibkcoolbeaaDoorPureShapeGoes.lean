/- Chapter 04: the law ShapeGoes: in a right image something always comes next. -/
import Derived.Test.YtdhiibkcoolbeaaDoorPx17
import Derived.Test.YtdhiibkcoolbeaaDoorIq
namespace Go.Proofs.YtdhiibkcoolbeaaDoor.Pure
open Go.RowKit Go.Proofs.YtdhiibkcoolbeaaDoorW.PrintWords Go.Proofs.YtdhiibkcoolbeaaDoorW.PrintLast Go.Proofs.YtdhiibkcoolbeaaDoorW.PrintMore Go.Proofs.YtdhiibkcoolbeaaDoor.P Go.Proofs.YtdhiibkcoolbeaaDoor.Opening
set_option linter.unusedVariables false
set_option linter.unusedSimpArgs false

theorem of_zero {M : List S52} {C : List S40} {i : Nat} (h : alE M C i = 0) : (ofx (rdn C i)).2.2.2.2.2 = 0 := by
  unfold alE at h
  by_cases c : (ofx (rdn C i)).2.2.2.2.2 = 0
  · exact c
  · simp only [c, ne_eq, not_false_eq_true, if_true] at h
theorem pl_of {x : S40} (h : (ofx x).2.2.2.2.2 = 0) : plx x = if (ofx x).1 = 10 ∨ (ofx x).1 = 11 then 2 else 1 := by
  have h' : (ofV x.f0 x.f1 x.f2 x.f3 x.f4).2.2.2.2.2 = 0 := h
  have e := (of_ok h').1
  unfold plx placesV
  rw [if_pos h]
  unfold ofx
  rw [e]; rfl
theorem al_wide {M : List S52} {C : List S40} {i : Nat} (h : alE M C i = 0) (hc : (ofx (rdn C i)).1 = 10 ∨ (ofx (rdn C i)).1 = 11) : i + 1 ≠ C.length ∧ ((ofx (rdn C i)).1 = 11 → 0 ≤ (rdn C i).f4 ∧ (rdn C i).f4 < M.length) := by
  have h0 := of_zero h
  unfold alE at h
  simp only [h0, ne_eq, not_true_eq_false, if_false, hc, if_true] at h
  by_cases ce : i + 1 = C.length
  · rw [if_pos ce] at h; exact absurd h (by decide)
  · rw [if_neg ce] at h
    refine ⟨ce, fun h11 => ?_⟩
    split at h
    · exact absurd h (by decide)
    · split at h
      · exact absurd h (by decide)
      · rename_i h2
        have := fun x => h2 ⟨h11, x⟩
        omega
theorem al_call {M : List S52} {C : List S40} {i : Nat} (h : alE M C i = 0) (hc : (ofx (rdn C i)).1 = 8) : helpB (rdn C i).f4 = true := by
  have h0 := of_zero h
  unfold alE at h
  simp only [h0, ne_eq, not_true_eq_false, if_false, hc, true_and] at h
  rw [if_neg (by decide)] at h
  split at h
  · exact absurd h (by decide)
  · rename_i h2
    unfold helpB
    exact decide_eq_true (Decidable.byContradiction h2)
theorem nx_eq {C : List S40} {i : Nat} (h : (ofx (rdn C i)).2.2.2.2.2 = 0) : (nx (plC C) i : Int) = i + plx (rdn C i) ∧ (plx (rdn C i) = 1 ∨ plx (rdn C i) = 2) := by
  have : plx (rdn C i) = 1 ∨ plx (rdn C i) = 2 := by rw [pl_of h]; split <;> simp
  refine ⟨?_, this⟩
  unfold nx plC mx
  rcases this with e | e <;> rw [e] <;> simp
theorem not_bg_between {C : List S40} {i : Nat} (h : bg (plC C) C.length i = true) (h2 : nx (plC C) i = i + 2) : bg (plC C) C.length (i + 1) = false := by
  cases hb : bg (plC C) C.length (i + 1) with
  | false => rfl
  | true =>
    obtain ⟨_, m1⟩ := bg_iff.1 h
    obtain ⟨_, m2⟩ := bg_iff.1 hb
    have := beg_gap _ _ m1 _ m2 (by simp)
    simp at this
    omega
theorem next_in {M : List S52} {C : List S40} (R : Right M C) {i : Nat} (h : bg (plC C) C.length i = true) (h7 : (ofx (rdn C i)).1 ≠ 7) (h9 : (ofx (rdn C i)).1 ≠ 9) : bg (plC C) C.length (nx (plC C) i) = true := by
  obtain ⟨hl, hm⟩ := bg_iff.1 h
  by_cases hn : nx (plC C) i < C.length
  · exact bg_iff.2 ⟨hn, beg_next _ _ hm hn⟩
  · have := R.last _ (beg_last _ _ hm (by simpa using hn))
    rcases this with e | e
    · exact absurd e h7
    · exact absurd e h9
theorem bg_lt {C : List S40} {i : Nat} (h : bg (plC C) C.length i = true) : i < C.length := (bg_iff.1 h).1
theorem jump_in {M : List S52} {C : List S40} (hC : ∀ z ∈ C, ok40 z) (R : Right M C) {i : Nat} (h : bg (plC C) C.length i = true) (hc : (ofx (rdn C i)).1 = 6 ∨ (ofx (rdn C i)).1 = 7) :
    0 ≤ toF C i ∧ toF C i < (stC C).length ∧ rdOf false (stC C) (toF C i) = true := by
  have hb := R.jumps i h
  unfold badJ at hb
  rw [ofF_eq hC 36] at hb
  have h1 : (decide ((ofx (rdn C i)).1 = 6) || decide ((ofx (rdn C i)).1 = 7)) = true := by simpa using hc
  rw [h1, Bool.true_and] at hb
  simp only [Bool.or_eq_false_iff, decide_eq_false_iff_not, Bool.not_eq_false'] at hb
  exact ⟨by omega, by omega, hb.2.2⟩
section
variable {M : List S52} {C : List S40}
theorem goes_j5 (hC : ∀ z ∈ C, ok40 z) (R : Right M C) {i : Nat} (h : bg (plC C) C.length i = true) (k : Nat) (a1 a2 : Int) (b1 b2 : Bool) (hk : stockadelaw04_ShapeGoes.l0 k (stC C) C (C.length : Int) ((i + 1 : Nat) : Int) M C = some true) :
    stockadelaw04_ShapeGoes.j5 (k + 1) (stC C) C (C.length : Int) (i : Int) false M C (rdn C i).f0 (rdn C i).f1 (rdn C i).f2 (rdn C i).f3 (rdn C i).f4 (ofx (rdn C i)).1 a1 a2 b1 b2 = some true := by
  have hl := bg_lt h
  have hw : wrap64 ((i : Int) + 1) = ((i + 1 : Nat) : Int) := by rw [fitW (by omega) (by have := R.le; omega)]; rfl
  obtain ⟨_, _, _, _, ⟨i0, i1⟩⟩ := ok40_open (ok_rd hC (i : Int))
  have hw4 : wrap64 (rdn C i).f4 = (rdn C i).f4 := fitW (by unfold rdn; omega) (by unfold rdn; omega)
  have ha := R.alone i h
  unfold stockadelaw04_ShapeGoes.j5
  rw [if_neg (by simp), hw, hw4, hk]
  by_cases c : (ofx (rdn C i)).1 = 11
  · obtain ⟨_, h4⟩ := al_wide ha (.inr c)
    obtain ⟨b0, b1⟩ := h4 c
    rw [if_pos c, if_neg (by omega), if_neg (by omega), if_neg (by omega)]
  · rw [if_neg c]
    by_cases c8 : (ofx (rdn C i)).1 = 8
    · rw [if_pos c8, Helper_eq, al_call ha c8]; rfl
    · rw [if_neg c8]
theorem goes_j4 (hC : ∀ z ∈ C, ok40 z) (R : Right M C) {i : Nat} (h : bg (plC C) C.length i = true) (k : Nat) (a1 a2 : Int) (b1 b2 : Bool) (hk : stockadelaw04_ShapeGoes.l0 k (stC C) C (C.length : Int) ((i + 1 : Nat) : Int) M C = some true) :
    stockadelaw04_ShapeGoes.j4 (k + 2) (stC C) (i : Int) C (C.length : Int) (i : Int) false M C (rdn C i).f0 (rdn C i).f1 (rdn C i).f2 (rdn C i).f3 (rdn C i).f4 (ofx (rdn C i)).1 a1 a2 b1 b2 = some true := by
  have hj5 := goes_j5 hC R h k a1 a2 b1 b2 hk
  have ht : shape_Target.f (i : Int) (rdn C i).f0 (rdn C i).f1 (rdn C i).f2 (rdn C i).f3 (rdn C i).f4 = some (toF C i) := rfl
  unfold stockadelaw04_ShapeGoes.j4
  rw [if_neg (by simp), ht, Option.bind_some]
  by_cases c : (ofx (rdn C i)).1 = 7
  · obtain ⟨t0, t1, t2⟩ := jump_in hC R h (.inr c)
    rw [if_pos c, if_neg (by omega), if_neg (by omega), if_pos t0, if_pos t1, t2]
    exact hj5
  · rw [if_neg c]
    by_cases c6 : (ofx (rdn C i)).1 = 6
    · obtain ⟨t0, t1, t2⟩ := jump_in hC R h (.inl c6)
      rw [if_pos c6, if_neg (by omega), if_neg (by omega), if_pos t0, if_pos t1, t2]
      exact hj5
    · rw [if_neg c6]; exact hj5
theorem goes_j3 (hC : ∀ z ∈ C, ok40 z) (R : Right M C) {i : Nat} (h : bg (plC C) C.length i = true) (k : Nat) (a1 a2 : Int) (b1 b2 : Bool) (hk : stockadelaw04_ShapeGoes.l0 k (stC C) C (C.length : Int) ((i + 1 : Nat) : Int) M C = some true) :
    stockadelaw04_ShapeGoes.j3 (k + 3) (stC C) (i : Int) (nx (plC C) i : Int) C (C.length : Int) (i : Int) false M C (rdn C i).f0 (rdn C i).f1 (rdn C i).f2 (rdn C i).f3 (rdn C i).f4 (ofx (rdn C i)).1 a1 a2 b1 b2 = some true := by
  have hj4 := goes_j4 hC R h k a1 a2 b1 b2 hk
  have hl := bg_lt h
  have hw : wrap64 ((i : Int) + 1) = ((i + 1 : Nat) : Int) := by rw [fitW (by omega) (by have := R.le; omega)]; rfl
  have hw2 : wrap64 ((i : Int) + 2) = ((i + 2 : Nat) : Int) := by rw [fitW (by omega) (by have := R.le; omega)]; rfl
  have ha := R.alone i h
  obtain ⟨hn, hp⟩ := nx_eq (of_zero ha)
  unfold stockadelaw04_ShapeGoes.j3
  rw [if_neg (by simp), hw, hw2]
  by_cases c : nx (plC C) i = i + 2
  · have hb := not_bg_between h c
    have hpl := pl_of (of_zero ha)
    have hwide : (ofx (rdn C i)).1 = 10 ∨ (ofx (rdn C i)).1 = 11 := by
      refine Decidable.byContradiction fun hne => ?_
      rw [if_neg hne] at hpl
      omega
    have h1 := (al_wide ha hwide).1
    rw [if_pos (by rw [c]), if_pos (by omega), if_pos (by rw [stC_len]; omega), stC_get C (by omega), Int.toNat_natCast, hb]
    exact hj4
  · rw [if_neg (by omega)]
    exact hj4
theorem goes_l0 (hC : ∀ z ∈ C, ok40 z) (R : Right M C) : ∀ (m i k : Nat), C.length - i = m → i ≤ C.length → stockadelaw04_ShapeGoes.l0 (4 * m + 10 + k) (stC C) C (C.length : Int) (i : Int) M C = some true
  | 0, i, k, hm, hi => by
    rw [show 4 * 0 + 10 + k = (9 + k) + 1 by omega]
    unfold stockadelaw04_ShapeGoes.l0
    rw [if_neg (by omega)]
  | m + 1, i, k, hm, hi => by
    have hl : i < C.length := by omega
    have ih := goes_l0 hC R m (i + 1) k (by omega) (by omega)
    have ihk : ∀ j, stockadelaw04_ShapeGoes.l0 (4 * m + 10 + (k + j)) (stC C) C (C.length : Int) ((i + 1 : Nat) : Int) M C = some true := fun j => goes_l0 hC R m (i + 1) (k + j) (by omega) (by omega)
    have hw : wrap64 ((i : Int) + 1) = ((i + 1 : Nat) : Int) := by rw [fitW (by omega) (by have := R.le; omega)]; rfl
    rw [show 4 * (m + 1) + 10 + k = (4 * m + 10 + k + 3) + 1 by omega]
    unfold stockadelaw04_ShapeGoes.l0
    rw [if_pos (by omega), if_pos (by omega), if_pos (by omega), if_pos (by rw [stC_len]; omega), stC_get C (by omega), Int.toNat_natCast, hw]
    by_cases hb : bg (plC C) C.length i = true
    · rw [if_pos hb]
      have hj3 := fun a1 a2 b1 b2 => goes_j3 hC R hb (4 * m + 10 + k) a1 a2 b1 b2 ih
      have ha := R.alone i hb
      obtain ⟨hn, hp⟩ := nx_eq (of_zero ha)
      have hof := of_at (ok_rd hC (i : Int)) (4 * m + 10 + k + 3 - 4)
      have hpl := pl_at (ok_rd hC (i : Int)) (4 * m + 10 + k + 3 - 4)
      rw [show 4 * m + 10 + k + 3 - 4 + 4 = 4 * m + 10 + k + 3 by omega] at hof hpl
      rw [hof, Option.bind_some, if_pos (show (ofx (rd_T40 C (i : Int))).2.2.2.2.2 = 0 from of_zero ha), hpl, Option.bind_some]
      have hwn : wrap64 ((i : Int) + plx (rd_T40 C (i : Int))) = (nx (plC C) i : Int) := by
        rw [show rd_T40 C (i : Int) = rdn C i from rfl, fitW (by omega) (by have := R.le; omega), hn]
      rw [hwn]
      by_cases c7 : (ofx (rd_T40 C (i : Int))).1 = 7
      · rw [if_pos c7]; exact hj3 _ _ _ _
      · rw [if_neg c7]
        by_cases c9 : (ofx (rd_T40 C (i : Int))).1 = 9
        · rw [if_pos c9]; exact hj3 _ _ _ _
        · rw [if_neg c9]
          have hx := next_in R hb c7 c9
          have hxl := bg_lt hx
          rw [if_neg (by rw [stC_len]; omega), if_pos (by omega), if_pos (by rw [stC_len]; omega), stC_get C (by omega), Int.toNat_natCast, hx]
          exact hj3 _ _ _ _
    · rw [if_neg hb]
      have := ihk 3
      rw [show 4 * m + 10 + (k + 3) = 4 * m + 10 + k + 3 by omega] at this
      exact this
end
theorem ShapeGoes (l0_0 : List S52) (l0_1 : List S40) (y0_0 : l0_0.length * 32 ≤ 140737488351232) (hw0_0 : ∀ z ∈ l0_0, ok52 z) (y0_1 : l0_1.length * 12 ≤ 140737488351232) (hw0_1 : ∀ z ∈ l0_1, ok40 z) : ∃ k, P.stockadelaw04_ShapeGoes.f k l0_0 l0_1 = some true := by
  obtain ⟨v, hv⟩ := Check_some (M := l0_0) hw0_1
  obtain ⟨K, hK⟩ : ∃ K, K = 4 * l0_1.length + 10 + 0 := ⟨_, rfl⟩
  refine ⟨K + 1 + 1, ?_⟩
  unfold stockadelaw04_ShapeGoes.f stockadelaw04_right.f
  rw [awake_eq, Option.bind_some, if_pos rfl, hv, Option.bind_some, Option.bind_some]
  by_cases h0 : v.2 = 0
  · have R := right_of hw0_1 hv h0
    have hb : (!(v.2 == 0)) = false := by simp [h0]
    rw [hb]
    unfold stockadelaw04_ShapeGoes.j0
    dsimp only
    rw [if_neg (by simp), Starts_eq hw0_1 (by omega), Option.bind_some, if_pos (by rw [stC_len]), if_pos (by rw [stC_len]; have := R.pos; omega)]
    have h00 : bg (plC l0_1) l0_1.length 0 = true := bg_iff.2 ⟨R.pos, beg_zero R.pos⟩
    rw [stC_get l0_1 (by omega), show (0 : Int).toNat = 0 from rfl, h00]
    unfold stockadelaw04_ShapeGoes.j1
    dsimp only
    rw [if_neg (by simp)]
    rw [hK]
    exact goes_l0 hw0_1 R l0_1.length 0 0 (by omega) (by omega)
  · have hb : (!(v.2 == 0)) = true := by simp [h0]
    rw [hb]
    unfold stockadelaw04_ShapeGoes.j0
    dsimp only
    rw [if_pos rfl, awake_eq]; rfl
end Go.Proofs.YtdhiibkcoolbeaaDoor.Pure
