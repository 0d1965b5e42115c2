/- Chapter 05: registers and second halves say nothing. -/
import Derived.Test.YtkjcjlegokdpdaaDoorGh
import Derived.Test.YtkjcjlegokdpdaaDoorPx23
namespace Go.Proofs.YtkjcjlegokdpdaaDoor.Pure
open Go.RowKit Go.Proofs.YtkjcjlegokdpdaaDoorW.PrintWords Go.Proofs.YtkjcjlegokdpdaaDoorW.PrintLast Go.Proofs.YtkjcjlegokdpdaaDoorW.PrintMore Go.Proofs.YtkjcjlegokdpdaaDoor.P Go.Proofs.YtkjcjlegokdpdaaDoor.Opening
set_option linter.unusedVariables false
set_option linter.unusedSimpArgs false

theorem wf_small {n : Int} (h0 : 0 ≤ n) (h1 : n ≤ 255) : (Lit.int .u8 n).wf = true := by
  have e0 : IntKind.u8.min = 0 := by decide
  have e1 : IntKind.u8.max = 255 := by decide
  show (decide (IntKind.u8.min ≤ n) && decide (n ≤ IntKind.u8.max)) = true
  rw [e0, e1]
  simp [h0, h1]
/-- Two instructions that say the same of what comes next. -/
def alike (x y : S44) : Prop := ofx x = ofx y ∧ plx x = plx y ∧ x.f3 = y.f3
theorem alike_rfl (x : S44) : alike x x := ⟨rfl, rfl, rfl⟩
theorem alike_mov {s o i d d' : Int} (h : d ≤ 9) (h0 : 0 ≤ d') (h' : d' ≤ 9) : alike ⟨183, d, s, o, i⟩ ⟨183, d', s, o, i⟩ := by
  have e : ofx ⟨183, d, s, o, i⟩ = ofx ⟨183, d', s, o, i⟩ := by
    have k : kindV 183 s i = (1, 11, 0, true, false) := by unfold kindV; simp
    unfold ofx ofV
    simp only [k, fieldsV]
    have a1 : ¬ d > 10 := by omega
    have a2 : ¬ d' > 10 := by omega
    have a3 : ¬ d = 10 := by omega
    have a4 : ¬ d' = 10 := by omega
    simp [a1, a2, a3, a4]
  exact ⟨e, by unfold plx; rw [e], rfl⟩
theorem alike_jump {s o i d d' : Int} (h : d ≤ 10) (h0 : 0 ≤ d') (h' : d' ≤ 9) : alike ⟨21, d, s, o, i⟩ ⟨21, d', s, o, i⟩ := by
  have e : ofx ⟨21, d, s, o, i⟩ = ofx ⟨21, d', s, o, i⟩ := by
    have k : kindV 21 s i = (6, 1, 0, true, false) := by unfold kindV jumpV condB; simp
    unfold ofx ofV
    simp only [k, fieldsV]
    have a1 : ¬ d > 10 := by omega
    have a2 : ¬ d' > 10 := by omega
    simp [a1, a2]
  exact ⟨e, by unfold plx; rw [e], rfl⟩
/-- The same at all starts. -/
def Same (C X : List S44) : Prop := X.length = C.length ∧ (∀ z ∈ X, ok44 z) ∧ ∀ j, j < C.length → bgR C j = true → alike (rdn C j) (rdn X j)
theorem same_bg {C X : List S44} (h : Same C X) {j : Nat} (hj : j ≤ C.length) : bgR C j = bgR X j := bgR_congr j fun i hi hb => by
  have := (h.2.2 i (by omega) hb).2.1
  unfold stp; rw [this]
theorem same_nxt {C X : List S44} (h : Same C X) (a : Nat) : nxt C a = nxt X a := by
  unfold nxt
  rw [h.1]
  by_cases ha : a < C.length
  · rw [if_pos ha, if_pos ha]
    refine List.filter_congr fun b hb => ?_
    have hb := List.mem_range.1 hb
    unfold leadB
    rw [← same_bg h (Nat.le_of_lt ha), ← same_bg h (Nat.le_of_lt hb)]
    cases hs : bgR C a with
    | false => rfl
    | true =>
      obtain ⟨e1, _, e3⟩ := h.2.2 a ha hs
      have hf : farV C (a : Int) = farV X (a : Int) := by
        unfold farV
        have : (rd_T44 C (a : Int)).f3 = (rd_T44 X (a : Int)).f3 := e3
        rw [this]
      unfold leadC
      rw [e1, hf]
  · rw [if_neg ha, if_neg ha]
theorem same_ord {C X : List S44} (hC : ∀ z ∈ C, ok44 z) (hl : C.length ≤ 1000) (h : Same C X) : ordR C = ordR X := by
  have hn : nxt C = nxt X := funext (same_nxt h)
  have hlX : X.length ≤ 1000 := by rw [h.1]; exact hl
  have hi : inR C = inR X := by
    refine at_ext (by rw [inR_len hC hl, inR_len h.2.1 hlX, h.1]) fun i _ => ?_
    have e1 := inR_iff hC hl (i := i)
    have e2 := inR_iff h.2.1 hlX (i := i)
    rw [h.1, ← hn, ← e1] at e2
    cases a : at_ (inR C) i <;> cases b : at_ (inR X) i <;> simp [a, b] at e2 ⊢
  unfold ordR
  rw [hn, hi, h.1]
theorem kind24 {s i : Int} (h : (kindV 24 s i).1 ≠ 0) : (kindV 24 s i).1 = 10 + s ∧ s < 2 := by
  unfold kindV at h ⊢
  simp at h ⊢
  by_cases c : s < 2
  · simp [c]
  · simp [c, zeroV] at h
theorem two_ref {x : S44} (hx : ok44 x) (h : x.f0 = 24) (he : (ofx x).2.2.2.2.2 = 0) : stp x = 2 := by
  have h' : (ofV x.f0 x.f1 x.f2 x.f3 x.f4).2.2.2.2.2 = 0 := he
  obtain ⟨e1, e2, _⟩ := of_ok h'
  rw [h] at e2
  obtain ⟨e3, e4⟩ := kind24 e2
  obtain ⟨_, _, ⟨s0, s1⟩, _⟩ := ok44_open hx
  unfold stp plx placesV
  rw [if_pos he, h]
  have : (kindV 24 x.f2 x.f4).1 = 10 ∨ (kindV 24 x.f2 x.f4).1 = 11 := by omega
  rw [if_pos this]; rfl
theorem blind_up {x0 : List S44} {x1 : Int} {x7 : List S44} {x8 c0 c1 c2 c3 c4 : Int} : ∀ (d k : Nat), stockadelaw05_GraphBlind.l0 k x0 x1 x7 x8 c0 c1 c2 c3 c4 = some true → stockadelaw05_GraphBlind.l0 (k + d) x0 x1 x7 x8 c0 c1 c2 c3 c4 = some true
  | 0, k, h => h
  | d + 1, k, h => (stockadelaw05_GraphBlind.mono_l (k + d)).1 _ _ _ _ _ _ _ _ _ _ (blind_up d k h)
section
variable {C : List S44} (hC : ∀ z ∈ C, ok44 z) (hl : C.length ≤ 130) {a1 : Int} (w1 : 0 ≤ a1 ∧ a1 ≤ 255) {b0 b1 b2 b3 b4 : Int} (hb : ok44 ⟨b0, b1, b2, b3, b4⟩)
include hC hl w1 hb
theorem blind_l0 : ∀ (m i : Nat) (X : List S44), C.length - i ≤ m → i ≤ C.length → Same C X → (∀ j, i ≤ j → rdn X j = rdn C j) → stockadelaw05_GraphBlind.l0 (3 * m + (C.length + 300) + 1) C a1 X (i : Int) b0 b1 b2 b3 b4 = some true := by
  intro m
  induction m with
  | zero =>
    intro i X hm hi hS hE
    obtain ⟨hX, hok, hal⟩ := hS
    rw [stockadelaw05_GraphBlind.l0, if_neg (by omega), Order_eq hC (by omega), Option.bind_some, Order_eq hok (by omega), Option.bind_some, ← same_ord hC (by omega) ⟨hX, hok, hal⟩]
    have := ordR_len hC (by omega)
    rw [if_pos rfl, ints_same (by omega) (by omega), Option.bind_some, if_pos rfl, wakes_ge (by omega)]; rfl
  | succ m ih =>
    intro i X hm hi hS hE
    have hS0 := hS
    obtain ⟨hX, hok, hal⟩ := hS
    by_cases hlt : i < C.length
    rotate_left
    · rw [stockadelaw05_GraphBlind.l0, if_neg (by omega), Order_eq hC (by omega), Option.bind_some, Order_eq hok (by omega), Option.bind_some, ← same_ord hC (by omega) ⟨hX, hok, hal⟩]
      have := ordR_len hC (by omega)
      rw [if_pos rfl, ints_same (by omega) (by omega), Option.bind_some, if_pos rfl, wakes_ge (by omega)]; rfl
    have hw1 : wrap64 ((i : Int) + 1) = ((i + 1 : Nat) : Int) := by unfold wrap64; omega
    have hw2 : wrap64 (((i + 1 : Nat) : Int) + 1) = ((i + 2 : Nat) : Int) := by unfold wrap64; omega
    have hxi : rd_T44 X (i : Int) = rdn C i := hE i (Nat.le_refl i)
    have hci : rd_T44 C (i : Int) = rdn C i := rfl
    have hcok : ok44 (rdn C i) := ok_rd hC _
    have next : ∀ X', Same C X' → (∀ j, i + 1 ≤ j → rdn X' j = rdn C j) → stockadelaw05_GraphBlind.l0 (3 * m + (C.length + 300) + 1) C a1 X' ((i + 1 : Nat) : Int) b0 b1 b2 b3 b4 = some true := fun X' h1 h2 => ih (i + 1) X' (by omega) (by omega) h1 h2
    have hset : ∀ v, ok44 v → (bgR C i = true → alike (rdn C i) v) → Same C (X.set i v) ∧ ∀ j, i + 1 ≤ j → rdn (X.set i v) j = rdn C j := fun v hv ha => by
      refine ⟨⟨by rw [List.length_set]; exact hX, fun z hz => ?_, fun j hj hbj => ?_⟩, fun j hj => ?_⟩
      · rcases List.mem_or_eq_of_mem_set hz with h | h
        · exact hok z h
        · rw [h]; exact hv
      · rw [rdn_set (by omega)]
        by_cases e : j = i
        · rw [if_pos e, e]; rw [e] at hbj; exact ha hbj
        · rw [if_neg e]; exact hal j hj hbj
      · rw [rdn_set (by omega), if_neg (by omega)]; exact hE j (by omega)
    have j2 : ∀ (g : Bool), (g = true → (rdn C i).f0 = 183 ∨ (rdn C i).f0 = 21) → stockadelaw05_GraphBlind.j2 (3 * m + (C.length + 300) + 2) C a1 X (i : Int) (rdn C i).f0 g b0 b1 b2 b3 b4 = some true := fun g hg => by
      rw [stockadelaw05_GraphBlind.j2]
      obtain ⟨_, ⟨d0, d1⟩, _⟩ := ok44_open hcok
      obtain ⟨k0, k1, k2, k3, k4⟩ := hcok
      have ht0 : 0 ≤ Int.tmod a1 10 ∧ Int.tmod a1 10 ≤ 9 := by rw [Int.tmod_eq_emod_of_nonneg w1.1]; omega
      have hv : ok44 ⟨(rdn C i).f0, Int.tmod a1 10, (rdn C i).f2, (rdn C i).f3, (rdn C i).f4⟩ := ⟨k0, wf_small ht0.1 (Int.le_trans ht0.2 (by decide)), k2, k3, k4⟩
      have hback : (X.set i (⟨(rdn C i).f0, Int.tmod a1 10, (rdn C i).f2, (rdn C i).f3, (rdn C i).f4⟩ : S44)).set i (rdn C i) = X.set i (rdn C i) := List.set_set ..
      cases g with
      | false =>
        rw [if_neg (by decide), hw1]
        exact next X hS0 fun j hj => hE j (by omega)
      | true =>
        rw [if_pos rfl, if_pos (by omega), if_pos (by omega), Option.bind_some, if_pos (by omega), hxi, hci, hw1, Int.toNat_natCast]
        by_cases c1 : (rdn C i).f1 > 10
        · rw [if_pos c1, hback]
          obtain ⟨h1, h2⟩ := hset (rdn C i) ⟨k0, k1, k2, k3, k4⟩ fun _ => alike_rfl _
          exact next _ h1 h2
        · rw [if_neg c1]
          by_cases c2 : (rdn C i).f1 = 10
          · rw [if_pos c2]
            by_cases c3 : (rdn C i).f0 = 183
            · rw [if_pos c3, hback]
              obtain ⟨h1, h2⟩ := hset (rdn C i) ⟨k0, k1, k2, k3, k4⟩ fun _ => alike_rfl _
              exact next _ h1 h2
            · rw [if_neg c3]
              obtain ⟨h1, h2⟩ := hset _ hv fun _ => by
                have e := (hg rfl).resolve_left c3
                have := alike_jump (s := (rdn C i).f2) (o := (rdn C i).f3) (i := (rdn C i).f4) (d := (rdn C i).f1) (d' := Int.tmod a1 10) (by omega) ht0.1 ht0.2
                rw [← e] at this; exact this
              exact next _ h1 h2
          · rw [if_neg c2]
            obtain ⟨h1, h2⟩ := hset _ hv fun _ => by
              rcases hg rfl with e | e
              · have := alike_mov (s := (rdn C i).f2) (o := (rdn C i).f3) (i := (rdn C i).f4) (d := (rdn C i).f1) (d' := Int.tmod a1 10) (by omega) ht0.1 ht0.2
                rw [← e] at this; exact this
              · have := alike_jump (s := (rdn C i).f2) (o := (rdn C i).f3) (i := (rdn C i).f4) (d := (rdn C i).f1) (d' := Int.tmod a1 10) (by omega) ht0.1 ht0.2
                rw [← e] at this; exact this
            exact next _ h1 h2
    have j1 : stockadelaw05_GraphBlind.j1 (3 * m + (C.length + 300) + 3) C a1 X (i : Int) (rdn C i).f0 false b0 b1 b2 b3 b4 = some true := by
      rw [stockadelaw05_GraphBlind.j1, if_neg (by decide)]
      by_cases c : (rdn C i).f0 = 183
      · rw [if_pos c]; exact j2 true fun _ => Or.inl c
      · rw [if_neg c]; exact j2 _ fun h => Or.inr (by simpa using h)
    rw [show 3 * (m + 1) + (C.length + 300) + 1 = (3 * m + (C.length + 300) + 3) + 1 by omega, stockadelaw05_GraphBlind.l0, if_pos (by omega), if_pos (by omega), hxi, hw1]
    by_cases c : (rdn C i).f0 = 24
    rotate_left
    · rw [if_neg c]; exact j1
    rw [if_pos c]
    by_cases c1 : i + 1 < C.length
    rotate_left
    · rw [if_neg (by omega)]; exact j1
    have hne := Next_eq hok (by omega) (3 * m + 298) (i : Int)
    rw [hX] at hne
    rw [if_pos (by omega), show 3 * m + (C.length + 300) + 3 = C.length + 5 + (3 * m + 298) by omega, hne, Option.bind_some]
    have hnx : nxI X (i : Int) = toI (nxt X i) := by unfold nxI; rw [if_neg (by omega), Int.toNat_natCast]
    rw [hnx, toI_len]
    rw [show C.length + 5 + (3 * m + 298) = 3 * m + (C.length + 300) + 3 by omega]
    cases hq : nxt X i with
    | nil => exact j1
    | cons b r =>
      have hbm : b ∈ nxt X i := by rw [hq]; exact List.mem_cons_self
      have hlead := (mem_nxt.1 hbm).2.2
      unfold leadB at hlead
      simp only [Bool.and_eq_true, decide_eq_true_eq] at hlead
      obtain ⟨hs, _, he, _⟩ := hlead
      have hsC : bgR C i = true := by rw [same_bg hS0 (by omega)]; exact hs
      have hrr : rdn X i = rdn C i := hE i (Nat.le_refl i)
      rw [hrr] at he
      have h2 := two_ref hcok c he
      have hbi : bgR C (i + 1) = false := (bgR_two hsC h2).1
      rw [stockadelaw05_GraphBlind.j1, if_pos (by simp), hw1, if_pos (by omega), if_pos (by omega), Int.toNat_natCast, hw2]
      have hfin := ih (i + 2) (X.set (i + 1) ⟨b0, b1, b2, b3, b4⟩) (by omega) (by omega) ⟨by rw [List.length_set]; exact hX, fun z hz => by
          rcases List.mem_or_eq_of_mem_set hz with h | h
          · exact hok z h
          · rw [h]; exact hb, fun j hj hbj => by
          rw [rdn_set (by omega)]
          by_cases e : j = i + 1
          · rw [e, hbi] at hbj; exact absurd hbj (by decide)
          · rw [if_neg e]; exact hal j hj hbj⟩ (fun j hj => by rw [rdn_set (by omega), if_neg (by omega)]; exact hE j (by omega))
      exact blind_up 1 _ hfin
end
theorem GraphBlind (l0 : List P.S44) (a1 : Int) (a2_0 : Int) (a2_1 : Int) (a2_2 : Int) (a2_3 : Int) (a2_4 : Int) (y0 : l0.length * 12 ≤ 140737488351232) (hw0 : ∀ z ∈ l0, Opening.ok44 z) (w1 : (Lit.int .u8 a1).wf = true) (w2_0 : (Lit.int .u8 a2_0).wf = true) (w2_1 : (Lit.int .u8 a2_1).wf = true) (w2_2 : (Lit.int .u8 a2_2).wf = true) (w2_3 : (Lit.int .i16 a2_3).wf = true) (w2_4 : (Lit.int .i32 a2_4).wf = true) : ∃ k, P.stockadelaw05_GraphBlind.f k l0 a1 a2_0 a2_1 a2_2 a2_3 a2_4 = some true := by
  by_cases c : (l0.length : Int) > 130
  · refine ⟨40, ?_⟩
    unfold stockadelaw05_GraphBlind.f
    rw [if_pos c, wakes_eq]; rfl
  · refine ⟨3 * l0.length + (l0.length + 300) + 1, ?_⟩
    unfold stockadelaw05_GraphBlind.f
    rw [if_neg c, own_eq (by omega), Option.bind_some]
    exact blind_l0 hw0 (by omega) (bounds_u8 w1) ⟨w2_0, w2_1, w2_2, w2_3, w2_4⟩ l0.length 0 l0 (by omega) (by omega) ⟨rfl, hw0, fun j _ _ => alike_rfl _⟩ (fun j _ => rfl)
end Go.Proofs.YtkjcjlegokdpdaaDoor.Pure
