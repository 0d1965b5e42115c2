/- Chapter 05: the document's Start, Leads, Next. -/
import Derived.Test.YtkjcjlegokdpdaaDoorGp
import Derived.Test.YtkjcjlegokdpdaaDoorId
import Derived.Test.YtkjcjlegokdpdaaDoorEvs
import Derived.Test.YtkjcjlegokdpdaaDoorPx15
import Derived.Test.YtkjcjlegokdpdaaDoorPx16
namespace Go.Proofs.YtkjcjlegokdpdaaDoor.Pure
open Go.RowKit Go.Proofs.YtkjcjlegokdpdaaDoorW.PrintWords Go.Proofs.YtkjcjlegokdpdaaDoorW.PrintLast Go.Proofs.YtkjcjlegokdpdaaDoorW.PrintMore Go.Proofs.YtkjcjlegokdpdaaDoor.P Go.Proofs.YtkjcjlegokdpdaaDoor.Opening
set_option linter.unusedVariables false
set_option linter.unusedSimpArgs false

theorem rpl_at {x : S44} (h : ok44 x) (k : Nat) : stockaderef02_Places.f (k + 200) x.f0 x.f1 x.f2 x.f3 x.f4 = some (plx x) := by
  obtain ⟨⟨h0, h1⟩, ⟨d0, d1⟩, ⟨s0, s1⟩, _, ⟨i0, i1⟩⟩ := ok44_open h
  exact refPlaces_eq k h0 h1 d0 s0 s1 i0 i1
theorem rof_at {x : S44} (h : ok44 x) (k : Nat) : stockaderef02_Of.f (k + 200) x.f0 x.f1 x.f2 x.f3 x.f4 = some (ofx x) := by
  obtain ⟨⟨h0, h1⟩, ⟨d0, d1⟩, ⟨s0, s1⟩, _, ⟨i0, i1⟩⟩ := ok44_open h
  exact refOf_eq k h0 h1 d0 s0 s1 i0 i1
theorem wrN {a b : Nat} (h : a + b ≤ 100000) : wrap64 ((a : Int) + (b : Int)) = ((a + b : Nat) : Int) := by unfold wrap64; omega
section
variable {C : List S44} (hC : ∀ z ∈ C, ok44 z) (hl : C.length ≤ 1000)
include hC hl
theorem rstart_l0 {a : Nat} (ha : a < C.length) : ∀ (m i : Nat), a - i ≤ m → bgR C i = true → (i ≤ a ∨ i = a + 1 ∧ bgR C a = false) → Ev (fun K => stockaderef05_Start.l0 K C (a : Int) (i : Int)) (bgR C a) := by
  have hend : ∀ i : Nat, ¬ i < a → bgR C i = true → (i ≤ a ∨ i = a + 1 ∧ bgR C a = false) → Ev (fun K => stockaderef05_Start.l0 K C (a : Int) (i : Int)) (bgR C a) := fun i hi hb h => by
    refine Ev.of_eq 2 fun K => ?_
    show stockaderef05_Start.l0 (K + 1 + 1) C (a : Int) (i : Int) = _
    rw [stockaderef05_Start.l0, if_neg (by omega), stockaderef05_Start.j1, if_neg (by decide), if_pos (by omega)]
    rcases h with h | ⟨h, hf⟩
    · have e : i = a := by omega
      rw [if_pos (by rw [e]), ← e, hb, decide_eq_true (by omega)]
    · rw [if_neg (by omega), hf]
  intro m
  induction m with
  | zero => exact fun i h1 hb h => hend i (by omega) hb h
  | succ m ih =>
    intro i h1 hb h
    by_cases hi : i < a
    rotate_left
    · exact hend i hi hb h
    have hnext : ∀ s : Nat, stp (rdn C i) = s → Ev (fun K => stockaderef05_Start.l0 K C (a : Int) ((i + s : Nat) : Int)) (bgR C a) := fun s hs => by
      rcases stp_or (rdn C i) with e | e
      · have : s = 1 := by omega
        subst this
        exact ih (i + 1) (by omega) (bgR_one hs) (Or.inl (by omega))
      · have : s = 2 := by omega
        subst this
        obtain ⟨e1, e2⟩ := bgR_two hb hs
        refine ih (i + 2) (by omega) e2 ?_
        by_cases c : i + 2 ≤ a
        · exact Or.inl c
        · have : i + 1 = a := by omega
          subst this
          exact Or.inr ⟨rfl, e1⟩
    obtain ⟨K0, h0⟩ := hnext (stp (rdn C i)) rfl
    refine ⟨K0 + 202, fun K hK => ?_⟩
    obtain ⟨k, rfl⟩ : ∃ k, K = k + 200 + 1 + 1 := ⟨K - 202, by omega⟩
    have e0 := h0 (k + 200) (by omega)
    have hs := stp_or (rdn C i)
    show stockaderef05_Start.l0 (k + 200 + 1 + 1) C (a : Int) (i : Int) = _
    rw [stockaderef05_Start.l0, if_pos (by omega), decide_eq_true (by omega), stockaderef05_Start.j1, if_pos rfl, if_pos (by omega), if_pos (by omega)]
    have hp := rpl_at (ok_rd hC (i : Int)) k
    rw [hp, Option.bind_some]
    have hx : rd_T44 C (i : Int) = rdn C i := rfl
    rw [hx]
    have hstp : stp (rdn C i) = if plx (rdn C i) = 2 then 2 else 1 := rfl
    rcases plx_le (rdn C i) with e | e | e
    · rw [if_pos e]
      rw [e] at hstp
      rw [hstp] at e0
      rw [show (1 : Int) = ((1 : Nat) : Int) from rfl, wrN (by omega)]; exact e0
    · rw [if_neg (by omega), e]
      rw [e] at hstp
      rw [hstp] at e0
      rw [show (1 : Int) = ((1 : Nat) : Int) from rfl, wrN (by omega)]; exact e0
    · rw [if_neg (by omega), e]
      rw [e] at hstp
      rw [hstp] at e0
      rw [show (2 : Int) = ((2 : Nat) : Int) from rfl, wrN (by omega)]; exact e0
theorem rstart_eq {a : Nat} (ha : a < C.length) : Ev (fun K => stockaderef05_Start.f K C (a : Int)) (bgR C a) := rstart_l0 hC hl ha a 0 (by omega) rfl (Or.inl (Nat.zero_le a))
theorem rleads_eq {a b : Nat} (ha : a < C.length) (hb : b < C.length) : Ev (fun K => stockaderef05_Leads.f K C (a : Int) (b : Int)) (leadB C a b) := by
  obtain ⟨K0, h0⟩ := rstart_eq hC hl ha
  obtain ⟨K1, h1⟩ := rstart_eq hC hl hb
  refine ⟨K0 + K1 + 201, fun K hK => ?_⟩
  obtain ⟨k, rfl⟩ : ∃ k, K = k + 200 + 1 := ⟨K - 201, by omega⟩
  have e0 := h0 (k + 200 + 1) (by omega)
  have e1 := h1 (k + 200 + 1) (by omega)
  dsimp only at e0 e1 ⊢
  unfold stockaderef05_Leads.f leadB
  rw [e0, Option.bind_some]
  cases hs : bgR C a with
  | false => rw [if_neg (by decide), stockaderef05_Leads.j0, if_pos rfl]; rfl
  | true =>
    rw [if_pos rfl, e1, Option.bind_some]
    cases ht : bgR C b with
    | false => rw [stockaderef05_Leads.j0, if_pos (by rfl)]; rfl
    | true =>
      have hp := rof_at (ok_rd hC (a : Int)) k
      rw [stockaderef05_Leads.j0, if_neg (by decide), if_pos (by omega), if_pos (by omega), hp, Option.bind_some]
      have hx : rd_T44 C (a : Int) = rdn C a := rfl
      have hw1 : wrap64 ((a : Int) + 1) = ((a + 1 : Nat) : Int) := wrN (b := 1) (by omega)
      have hw2 : wrap64 ((a : Int) + 2) = ((a + 2 : Nat) : Int) := wrN (b := 2) (by omega)
      have hf : wrap64 (wrap64 ((a : Int) + 1) + wrap64 ((rdn C a).f3)) = farV C (a : Int) := rfl
      rw [hx, hf, hw1, hw2]
      simp only [Bool.true_and]
      have d1 : (((b : Int) == ((a + 1 : Nat) : Int)) : Bool) = decide (b = a + 1) := by rw [Bool.eq_iff_iff, beq_iff_eq, decide_eq_true_eq]; omega
      have d2 : (((b : Int) == ((a + 2 : Nat) : Int)) : Bool) = decide (b = a + 2) := by rw [Bool.eq_iff_iff, beq_iff_eq, decide_eq_true_eq]; omega
      have d3 : (((b : Int) == farV C (a : Int)) : Bool) = decide ((b : Int) = farV C (a : Int)) := by rw [Bool.eq_iff_iff, beq_iff_eq, decide_eq_true_eq]
      rw [d1, d2, d3]
      unfold leadC
      by_cases c0 : (ofx (rdn C a)).2.2.2.2.2 = 0
      rotate_left
      · rw [if_neg c0, decide_eq_false c0]; rfl
      rw [if_pos c0, decide_eq_true c0, Bool.true_and]
      by_cases c9 : (ofx (rdn C a)).1 = 9
      · rw [if_pos c9, if_pos c9]
      rw [if_neg c9, if_neg c9]
      by_cases c7 : (ofx (rdn C a)).1 = 7
      · rw [if_pos c7, if_pos c7]
      rw [if_neg c7, if_neg c7]
      by_cases c6 : (ofx (rdn C a)).1 = 6
      · rw [if_pos c6, if_pos c6]
        by_cases cf : (b : Int) = farV C (a : Int)
        · rw [if_pos cf, decide_eq_true (Or.inl cf)]
        · rw [if_neg cf]
          congr 1
          rw [Bool.eq_iff_iff, decide_eq_true_eq, decide_eq_true_eq]
          exact ⟨Or.inr, fun h => h.resolve_left cf⟩
      rw [if_neg c6, if_neg c6]
      by_cases c10 : (ofx (rdn C a)).1 = 10
      · rw [if_pos c10, if_pos (Or.inl c10)]
      rw [if_neg c10]
      by_cases c11 : (ofx (rdn C a)).1 = 11
      · rw [if_pos c11, if_pos (Or.inr c11)]
      rw [if_neg c11, if_neg (fun h => h.elim c10 c11)]
omit hC hl in
theorem lead_cand {a b : Nat} (h : leadB C a b = true) : b = a + 1 ∨ b = a + 2 ∨ (b : Int) = farV C (a : Int) := by
  unfold leadB at h
  simp only [Bool.and_eq_true] at h
  have h := h.2.2.2
  unfold leadC at h
  split at h
  · exact absurd h (by decide)
  split at h
  · exact Or.inr (Or.inr (of_decide_eq_true h))
  split at h
  · rcases of_decide_eq_true h with h | h
    · exact Or.inr (Or.inr h)
    · exact Or.inl h
  split at h
  · exact Or.inr (Or.inl (of_decide_eq_true h))
  · exact Or.inl (of_decide_eq_true h)
omit hC hl in
theorem fil_succ {p : Nat → Bool} (b : Nat) : toI ((List.range (b + 1)).filter p) = if p b = true then toI ((List.range b).filter p) ++ [(b : Int)] else toI ((List.range b).filter p) := by
  rw [List.range_succ, List.filter_append]
  cases h : p b with
  | false => rw [if_neg (by decide), List.filter_cons_of_neg (by simp [h])]; simp
  | true => rw [if_pos rfl, List.filter_cons_of_pos h, toI_append]; rfl
theorem rnext_l0 {a : Nat} (ha : a < C.length) : ∀ (m b : Nat), C.length - b ≤ m → b ≤ C.length → Ev (fun K => stockaderef05_Next.l0 K C (a : Int) (toI ((List.range b).filter (leadB C a))) (farV C (a : Int)) (b : Int)) (toI (nxt C a)) := by
  have hend : ∀ b : Nat, ¬ b < C.length → b ≤ C.length → Ev (fun K => stockaderef05_Next.l0 K C (a : Int) (toI ((List.range b).filter (leadB C a))) (farV C (a : Int)) (b : Int)) (toI (nxt C a)) := fun b h1 h2 => by
    have e : b = C.length := by omega
    subst e
    refine Ev.of_eq 1 fun K => ?_
    show stockaderef05_Next.l0 (K + 1) _ _ _ _ _ = _
    rw [stockaderef05_Next.l0, if_neg (by omega)]
    unfold nxt
    rw [if_pos ha]
  intro m
  induction m with
  | zero => exact fun b h1 h2 => hend b (by omega) h2
  | succ m ih =>
    intro b h1 h2
    by_cases hb : b < C.length
    rotate_left
    · exact hend b hb h2
    obtain ⟨K0, h0⟩ := ih (b + 1) (by omega) (by omega)
    obtain ⟨K1, h3⟩ := rleads_eq hC hl ha hb
    refine ⟨K0 + K1 + 1, fun K hK => ?_⟩
    obtain ⟨k, rfl⟩ : ∃ k, K = k + 1 := ⟨K - 1, by omega⟩
    have e0 := h0 k (by omega)
    have e3 := h3 k (by omega)
    have hlen : (toI ((List.range b).filter (leadB C a))).length < 17592186044416 := by
      rw [toI_len]
      have := List.length_filter_le (leadB C a) (List.range b)
      rw [List.length_range] at this
      omega
    have o1 : (b : Int) < (C.length : Int) := by omega
    have o2 : a + 1 ≤ 100000 := by omega
    have o3 : a + 2 ≤ 100000 := by omega
    have o4 : b + 1 ≤ 100000 := by omega
    have hw1 : wrap64 ((a : Int) + 1) = ((a + 1 : Nat) : Int) := wrN (b := 1) o2
    have hw2 : wrap64 ((a : Int) + 2) = ((a + 2 : Nat) : Int) := wrN (b := 2) o3
    have hwb : wrap64 ((b : Int) + 1) = ((b + 1 : Nat) : Int) := wrN (b := 1) o4
    rw [fil_succ] at e0
    dsimp only at e0 e3 ⊢
    rw [stockaderef05_Next.l0, if_pos o1, hw1, hw2, e3, Option.bind_some, hwb]
    have hall : (if leadB C a b = true then (if (toI ((List.range b).filter (leadB C a))).length < 17592186044416 then stockaderef05_Next.l0 k C (a : Int) (toI ((List.range b).filter (leadB C a)) ++ [(b : Int)]) (farV C (a : Int)) ((b + 1 : Nat) : Int) else none) else stockaderef05_Next.l0 k C (a : Int) (toI ((List.range b).filter (leadB C a))) (farV C (a : Int)) ((b + 1 : Nat) : Int)) = some (toI (nxt C a)) := by
      by_cases c : leadB C a b = true
      · rw [if_pos c] at e0 ⊢
        rw [if_pos hlen]; exact e0
      · rw [if_neg c] at e0 ⊢; exact e0
    by_cases c1 : (b : Int) = ((a + 1 : Nat) : Int)
    · rw [if_pos c1]; exact hall
    rw [if_neg c1]
    by_cases c2 : (b : Int) = ((a + 2 : Nat) : Int)
    · rw [if_pos c2]; exact hall
    rw [if_neg c2]
    by_cases c3 : (b : Int) = farV C (a : Int)
    · rw [if_pos c3]; exact hall
    rw [if_neg c3]
    have : ¬ leadB C a b = true := fun h => by
      rcases lead_cand h with h | h | h
      · exact c1 (by rw [h])
      · exact c2 (by rw [h])
      · exact c3 h
    rw [if_neg this] at e0
    exact e0
theorem rnext_eq (a : Int) : Ev (fun K => stockaderef05_Next.f K C a) (nxI C a) := by
  by_cases h0 : a < 0
  · refine Ev.of_eq 1 fun K => ?_
    show stockaderef05_Next.f (K + 1) C a = _
    unfold stockaderef05_Next.f nxI
    rw [if_pos h0, if_pos h0, stockaderef05_Next.j0, if_pos rfl]
  obtain ⟨i, rfl⟩ : ∃ i : Nat, a = (i : Int) := ⟨a.toNat, by omega⟩
  have hnx : nxI C (i : Int) = toI (nxt C i) := by unfold nxI; rw [if_neg (by omega), Int.toNat_natCast]
  rw [hnx]
  by_cases h1 : i < C.length
  · refine Ev.step (fun K => ?_) (rnext_l0 hC hl h1 C.length 0 (by omega) (by omega))
    unfold stockaderef05_Next.f
    rw [if_neg h0, decide_eq_false (by omega), stockaderef05_Next.j0, if_neg (by decide), if_pos (by omega), if_pos (by omega)]; rfl
  · refine Ev.of_eq 1 fun K => ?_
    show stockaderef05_Next.f (K + 1) C (i : Int) = _
    unfold stockaderef05_Next.f
    rw [if_neg h0, decide_eq_true (by omega), stockaderef05_Next.j0, if_pos rfl]
    unfold nxt
    rw [if_neg h1]; rfl
end
end Go.Proofs.YtkjcjlegokdpdaaDoor.Pure
