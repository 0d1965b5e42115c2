/- Chapter 04: the law ShapeAhead: what is wrong by itself is told whatever stands behind it. -/
import Derived.Test.YtdhiibkcoolbeaaDoorPx21
import Derived.Test.YtdhiibkcoolbeaaDoorIw
import Derived.Test.YtdhiibkcoolbeaaDoorIu
import Derived.Test.YtdhiibkcoolbeaaDoorPureAwake
import Derived.Test.YtdhiibkcoolbeaaDoorIx
namespace Go.Proofs.YtdhiibkcoolbeaaDoor.Pure
open Go.RowKit Go.Proofs.YtdhiibkcoolbeaaDoorW.PrintWords Go.Proofs.YtdhiibkcoolbeaaDoorW.PrintLast Go.Proofs.YtdhiibkcoolbeaaDoorW.PrintMore Go.Proofs.YtdhiibkcoolbeaaDoor.P Go.Proofs.YtdhiibkcoolbeaaDoor.Opening
set_option linter.unusedVariables false
set_option linter.unusedSimpArgs false

section
variable {M : List S52} {C : List S40}
theorem set_rdn {z : S40} {i j : Nat} (h : j ≠ i) : rdn (C.set i z) j = rdn C j := by
  unfold rdn rd_T40
  rw [Int.toNat_natCast, List.getD_eq_getElem?_getD, List.getD_eq_getElem?_getD, List.getElem?_set_ne (Ne.symm h)]
theorem set_ok (hC : ∀ z ∈ C, ok40 z) {z : S40} (hz : ok40 z) (i : Nat) : ∀ x ∈ C.set i z, ok40 x := fun x hx => by
  rcases List.mem_or_eq_of_mem_set hx with h | rfl
  · exact hC x h
  · exact hz
theorem ahead_l0 {O : List S40} (hO : ∀ z ∈ O, ok40 z) (a : Nat) (e : Int) (hl : C.length ≤ 512) (hol : O.length < 140737488355328) (ha : a < C.length)
    (H : ∀ C' : List S40, C'.length = C.length → (∀ j, j < a + 2 → rdn C' j = rdn C j) → (∀ z ∈ C', ok40 z) → shape_Check.f M C' = some ((a : Int), e)) :
    ∀ (m i k : Nat) (C' : List S40), C'.length - i = m → a + 2 ≤ i → C'.length = C.length → (∀ j, j < a + 2 → rdn C' j = rdn C j) → (∀ z ∈ C', ok40 z) →
      stockadelaw04_ShapeAhead.l0 (m + 1 + k) O (a : Int) e (i : Int) M C' = some true
  | 0, i, k, C', hm, hi, h1, h2, h3 => by
    rw [show 0 + 1 + k = k + 1 by omega]
    unfold stockadelaw04_ShapeAhead.l0
    rw [if_neg (by omega), H C' h1 h2 h3, Option.bind_some, if_pos rfl]
    simp
  | m + 1, i, k, C', hm, hi, h1, h2, h3 => by
    have hw : wrap64 ((i : Int) + 1) = ((i + 1 : Nat) : Int) := by rw [fitW (by omega) (by omega)]; rfl
    have hw2 : wrap64 (wrap64 ((i : Int) - (a : Int)) - 2) = ((i - a - 2 : Nat) : Int) := by rw [fitW (a := (i : Int) - (a : Int)) (by omega) (by omega), fitW (by omega) (by omega)]; omega
    rw [show m + 1 + 1 + k = (m + 1 + k) + 1 by omega]
    unfold stockadelaw04_ShapeAhead.l0
    rw [if_pos (by omega), hw2, hw]
    by_cases c : ((i - a - 2 : Nat) : Int) < (O.length : Int)
    · rw [if_pos c, if_pos (by omega), if_pos (by omega), Int.toNat_natCast]
      refine ahead_l0 hO a e hl hol ha H m (i + 1) k _ (by rw [List.length_set]; omega) (by omega) (by rw [List.length_set]; exact h1) (fun j hj => ?_) (set_ok h3 (ok_rd hO _) i)
      rw [set_rdn (by omega)]
      exact h2 j hj
    · rw [if_neg c, H C' h1 h2 h3, Option.bind_some, if_pos rfl]
      simp
theorem check_same (hC : ∀ z ∈ C, ok40 z) (h1 : C.length ≤ 512) (h2 : M.length ≤ 4) (hm : mapsBad M = none) {i : Nat} (hb : bg (plC C) C.length i = true) (ha : alE M C i ≠ 0) (hp : ∀ j, j < i → bg (plC C) C.length j = true → alE M C j = 0)
    (C' : List S40) (hl : C'.length = C.length) (hr : ∀ j, j < i + 2 → rdn C' j = rdn C j) (hC' : ∀ z ∈ C', ok40 z) : shape_Check.f M C' = some ((i : Int), alE M C i) := by
  have hil := (bg_iff.1 hb).1
  have hpl : ∀ j, j < i + 2 → plC C' j = plC C j := fun j hj => by unfold plC; rw [hr j hj]
  have hbg : ∀ j, j ≤ i → bg (plC C') C'.length j = bg (plC C) C.length j := fun j hj => by
    rw [bg_C C' (by omega), bg_C C (by omega)]
    exact bgR_congr j (fun q hq _ => hpl q (by omega))
  have he : ∀ j, j ≤ i → alE M C' j = alE M C j := fun j hj => alE_congr (hr j (by omega)) (fun _ => ⟨by omega, fun _ => hr (j + 1) (by omega)⟩)
  rw [← he i (Nat.le_refl _)]
  refine Check_alone hC' (by omega) h2 hm ((hbg i (Nat.le_refl _)).trans hb) (by rw [he i (Nat.le_refl _)]; exact ha) (fun j hj hbj => ?_)
  rw [hbg j (by omega)] at hbj
  rw [he j (by omega)]
  exact hp j hj hbj
end
theorem ShapeAhead (l0_0 : List S52) (l0_1 : List S40) (l1 : List S40) (y0_0 : l0_0.length * 32 ≤ 140737488351232) (hw0_0 : ∀ z ∈ l0_0, ok52 z) (y0_1 : l0_1.length * 12 ≤ 140737488351232) (hw0_1 : ∀ z ∈ l0_1, ok40 z) (y1 : l1.length * 12 ≤ 140737488351232) (hw1 : ∀ z ∈ l1, ok40 z) : ∃ k, P.stockadelaw04_ShapeAhead.f k l0_0 l0_1 l1 = some true := by
  obtain ⟨K, hK⟩ : ∃ K, K = l0_1.length + 5 := ⟨_, rfl⟩
  refine ⟨K + 1 + 1, ?_⟩
  unfold stockadelaw04_ShapeAhead.f
  rw [awake_eq, Option.bind_some, if_pos rfl]
  have jt : ∀ (a e : Int), stockadelaw04_ShapeAhead.j0 (K + 1 + 1) l1 a e true l0_0 l0_1 = some true := fun a e => by
    rw [stockadelaw04_ShapeAhead.j0]; rw [if_pos rfl]
  have hEx : ∀ z ∈ ([exI] : List S40), ok40 z := fun z h => by rw [List.mem_singleton.1 h]; exact ok_ex
  rcases Check_all (M := l0_0) hw0_1 with h0 | ⟨h0, h1⟩ | ⟨h0, h1, h2, hm⟩
  · rw [Check_short h0, Option.bind_some]; simp [jt]
  · rw [Check_long h0 h1, Option.bind_some]; simp [jt]
  rcases hm with ⟨i, hm⟩ | ⟨hm, ha⟩
  · rw [Check_maps hw0_1 h0 h1 h2 hm, Option.bind_some]
    have hi : i < l0_0.length := List.mem_range.1 (List.mem_of_find?_eq_some hm)
    dsimp only
    rw [if_neg (by decide), if_neg (by decide), if_neg (by decide), if_neg (by decide), if_neg (by decide), show decide ((l0_1.length : Int) > 512) = false from decide_eq_false (by omega)]
    rw [stockadelaw04_ShapeAhead.j0]
    obtain ⟨b, hb, hbi⟩ := right_b (M := l0_0) hEx
    have hbf : b = false := by
      cases b with
      | false => rfl
      | true => have := (right_one h2).1 (hbi.1 rfl); rw [hm] at this; exact absurd this (by simp)
    subst hbf
    rw [if_neg (by simp), if_neg (by omega), if_pos rfl, if_pos (by omega), exit_eq, Option.bind_some]
    dsimp only
    rw [show (⟨149, 0, 0, 0, 0⟩ : S40) = exI from rfl, hb, Option.bind_some]
    rw [stockadelaw04_ShapeAhead.j1]
    have e20 : mn (l1.length : Int) 20 = ((min l1.length 20 : Nat) : Int) := by unfold mn; omega
    rw [if_pos (by rfl), exit_eq, Option.bind_some, Option.bind_some, e20, if_pos (by omega), if_pos (by omega), Option.bind_some, Int.toNat_natCast, if_pos (by simp; omega)]
    dsimp only
    rw [show (⟨149, 0, 0, 0, 0⟩ : S40) = exI from rfl]
    rw [Check_maps (C := [exI] ++ l1.take (min l1.length 20)) (fun z hz => ?_) (by simp) (by simp; omega) h2 hm, Option.bind_some, if_pos rfl]
    · simp
    · rcases List.mem_append.1 hz with h | h
      · exact hEx z h
      · exact hw1 z (List.mem_of_mem_take h)
  rcases ha with ⟨i, hb, ha, hp⟩ | ⟨ha, hj⟩
  · have hil := (bg_iff.1 hb).1
    rw [Check_alone hw0_1 h1 h2 hm hb ha hp, Option.bind_some]
    dsimp only
    generalize he : alE l0_0 l0_1 i = e at *
    have main : stockadelaw04_ShapeAhead.j1 (K + 1) l1 (i : Int) e false l0_0 l0_1 = some true := by
      rw [stockadelaw04_ShapeAhead.j1]
      have hw2 : wrap64 ((i : Int) + 2) = ((i + 2 : Nat) : Int) := by rw [fitW (by omega) (by omega)]; rfl
      rw [if_neg (by simp), if_neg (by omega), twin_eq y0_0 y0_1, Option.bind_some, hw2]
      dsimp only
      have := ahead_l0 (M := l0_0) (C := l0_1) hw1 i e h1 (by omega) hil (fun C' a b c => by rw [← he]; exact check_same hw0_1 h1 h2 hm hb (by rw [he]; exact ha) hp C' a b c) (l0_1.length - (i + 2)) (i + 2) (K - (l0_1.length - (i + 2)) - 1) l0_1 rfl (Nat.le_refl _) rfl (fun _ _ => rfl) hw0_1
      rw [show l0_1.length - (i + 2) + 1 + (K - (l0_1.length - (i + 2)) - 1) = K by omega] at this
      exact this
    rw [if_neg ha]
    split
    · exact jt _ _
    split
    · exact jt _ _
    split
    · exact jt _ _
    split
    · exact jt _ _
    rw [show decide ((l0_1.length : Int) > 512) = false from decide_eq_false (by omega)]
    rw [stockadelaw04_ShapeAhead.j0]
    rw [if_neg (by simp), if_neg (by omega)]
    split
    · split
      · rw [exit_eq, Option.bind_some]
        dsimp only
        rw [show (⟨149, 0, 0, 0, 0⟩ : S40) = exI from rfl]
        obtain ⟨b, hb, hbi⟩ := right_b (M := l0_0) hEx
        have hbt : b = true := hbi.2 ((right_one h2).2 hm)
        subst hbt
        rw [hb, Option.bind_some]
        exact main
      · exact main
    · exact main
  rcases hj with ⟨i, hb, hj, hp⟩ | ⟨hj, p, hp⟩
  · rw [Check_jump hw0_1 h1 h2 hm ha hb hj hp, Option.bind_some]; simp [jt]
  · by_cases c7 : (ofx (rdn l0_1 p.1)).1 = 7
    · rw [right_eq hw0_1 ⟨h0, h1, h2, hm, ha, hj, fun q hq => by rw [hp] at hq; rw [← Option.some.inj hq]; exact .inl c7⟩, Option.bind_some]; simp [jt]
    by_cases c9 : (ofx (rdn l0_1 p.1)).1 = 9
    · rw [right_eq hw0_1 ⟨h0, h1, h2, hm, ha, hj, fun q hq => by rw [hp] at hq; rw [← Option.some.inj hq]; exact .inr c9⟩, Option.bind_some]; simp [jt]
    · rw [Check_fall hw0_1 h1 h2 hm ha hj hp c7 c9, Option.bind_some]; simp [jt]
end Go.Proofs.YtdhiibkcoolbeaaDoor.Pure
