/- Chapter 05: the order and the longest way. -/
-- in one
import Derived.Test.YtkjcjlegokdpdaaDoorGh
import Derived.Test.YtkjcjlegokdpdaaDoorKp
import Derived.Test.YtkjcjlegokdpdaaDoorGp
import Derived.Test.YtkjcjlegokdpdaaDoorId
import Derived.Test.YtkjcjlegokdpdaaDoorGr
import Derived.Test.YtkjcjlegokdpdaaDoorPx15
import Derived.Test.YtkjcjlegokdpdaaDoorPx16
import Derived.Test.YtkjcjlegokdpdaaDoorGq
import Derived.Test.YtkjcjlegokdpdaaDoorPx19
import Derived.Test.YtkjcjlegokdpdaaDoorPx20
import Derived.Test.YtkjcjlegokdpdaaDoorPx21
import Derived.Test.YtkjcjlegokdpdaaDoorPx9
import Derived.Test.YtkjcjlegokdpdaaDoorPx22
namespace Go.Proofs.YtkjcjlegokdpdaaDoor.Pure
open Go.RowKit Go.Proofs.YtkjcjlegokdpdaaDoorW.PrintWords Go.Proofs.YtkjcjlegokdpdaaDoorW.PrintLast Go.Proofs.YtkjcjlegokdpdaaDoorW.PrintMore Go.Proofs.YtkjcjlegokdpdaaDoor.P Go.Proofs.YtkjcjlegokdpdaaDoor.Opening
set_option linter.unusedVariables false
set_option linter.unusedSimpArgs false
def mark : S44 := ⟨149, 0, 0, 7, 0⟩
theorem rd_pre {C : List S44} {i : Nat} (h : i < C.length) : rd_T44 (C ++ [mark]) (i : Int) = rd_T44 C (i : Int) := by
 unfold rd_T44
 rw [List.getD_eq_getElem?_getD, List.getD_eq_getElem?_getD, Int.toNat_natCast, List.getElem?_append_left h]
theorem rd_mark {C : List S44} : rd_T44 (C ++ [mark]) (C.length : Int) = mark := by
 unfold rd_T44
 rw [List.getD_eq_getElem?_getD, Int.toNat_natCast, List.getElem?_append_right (Nat.le_refl _), Nat.sub_self]; rfl
theorem kept_l0 (C : List S44) (hl : C.length ≤ 1000) : ∀ (K i : Nat), i ≤ C.length → C.length - i < K → kept2.l0 K (C ++ [mark]) C (i : Int) = some true
 | 0, i, _, h => by omega
 | K + 1, i, hi, h => by
  have hal : (C ++ [mark]).length = C.length + 1 := by rw [List.length_append]; rfl
  rw [kept2.l0]
  by_cases c : i < C.length
  ·rw [if_pos (by omega), if_pos (by omega), if_pos (by omega), rd_pre c, if_neg (by simp), show wrap64 ((i : Int) + 1) = ((i + 1 : Nat) : Int) by unfold wrap64; omega]
   exact kept_l0 C hl K (i + 1) (by omega) (by omega)
  ·have hw : wrap64 ((C.length : Int) + 1) = ((C.length + 1 : Nat) : Int) := by unfold wrap64; omega
   rw [if_neg (by omega), hw, if_pos (by omega), if_pos (by omega), Option.bind_some, Int.toNat_natCast, List.take_of_length_le (by omega), if_pos (by omega), if_pos (by omega), rd_mark]
   rfl
theorem kept_eq {C : List S44} (hl : C.length ≤ 1000) {k : Nat} (hk : C.length < k) : kept2.f k (C ++ [(⟨149, 0, 0, 7, 0⟩ : S44)]) C = some true := kept_l0 C hl k 0 (by omega) (by omega)
end Go.Proofs.YtkjcjlegokdpdaaDoor.Pure

namespace Go.Proofs.YtkjcjlegokdpdaaDoor.Pure
set_option linter.unusedVariables false
set_option linter.unusedSimpArgs false

def Ev {α : Type} (f : Nat → Option α) (r : α) : Prop := ∃ K0, ∀ K, K0 ≤ K → f K = some r
theorem Ev.step {α : Type} {f g : Nat → Option α} {r : α} (h : ∀ K, f (K + 1) = g K) (hg : Ev g r) : Ev f r := by
 obtain ⟨K0, hK⟩ := hg
 refine ⟨K0 + 1, fun K h1 => ?_⟩
 obtain ⟨K', rfl⟩ : ∃ K', K = K' + 1 := ⟨K - 1, by omega⟩
 rw [h]; exact hK K' (by omega)
theorem Ev.bind {α β : Type} {f : Nat → Option α} {g : Nat → α → Option β} {a : α} {b : β} (hf : Ev f a) (hg : Ev (fun K => g K a) b) : Ev (fun K => (f K).bind (g K)) b := by
 obtain ⟨K0, h0⟩ := hf
 obtain ⟨K1, h1⟩ := hg
 exact ⟨max K0 K1, fun K h => by
  have e := h0 K (by omega)
  show (f K).bind (g K) = some b
  rw [e]; exact h1 K (by omega)⟩
theorem Ev.pure {α : Type} {r : α} : Ev (fun _ => some r) r := ⟨0, fun _ _ => rfl⟩
theorem Ev.of_eq {α : Type} {f : Nat → Option α} {r : α} (K0 : Nat) (h : ∀ K, f (K + K0) = some r) : Ev f r := ⟨K0, fun K hK => by have := h (K - K0); rwa [Nat.sub_add_cancel hK] at this⟩
end Go.Proofs.YtkjcjlegokdpdaaDoor.Pure

namespace Go.Proofs.YtkjcjlegokdpdaaDoor.Pure
open Go.RowKit Go.Proofs.YtkjcjlegokdpdaaDoorW.PrintWords Go.Proofs.YtkjcjlegokdpdaaDoorW.PrintLast Go.Proofs.YtkjcjlegokdpdaaDoorW.PrintMore Go.Proofs.YtkjcjlegokdpdaaDoor.P Go.Proofs.YtkjcjlegokdpdaaDoor.Opening
set_option linter.unusedVariables false
set_option linter.unusedSimpArgs false

theorem rpl_at {x : S44} (h : ok44 x) (k : Nat) : stockaderef02_Places.f (k + 200) x.f0 x.f1 x.f2 x.f3 x.f4 = some (plx x) := by
 obtain ⟨⟨h0, h1⟩, ⟨d0, d1⟩, ⟨s0, s1⟩, _, ⟨i0, i1⟩⟩ := ok44_open h
 exact refPlaces_eq k h0 h1 d0 s0 s1 i0 i1
theorem rof_at {x : S44} (h : ok44 x) (k : Nat) : stockaderef02_Of.f (k + 200) x.f0 x.f1 x.f2 x.f3 x.f4 = some (ofx x) := by
 obtain ⟨⟨h0, h1⟩, ⟨d0, d1⟩, ⟨s0, s1⟩, _, ⟨i0, i1⟩⟩ := ok44_open h
 exact refOf_eq k h0 h1 d0 s0 s1 i0 i1
theorem wrN {a b : Nat} (h : a + b ≤ 100000) : wrap64 ((a : Int) + (b : Int)) = ((a + b : Nat) : Int) := by unfold wrap64; omega
section
variable {C : List S44} (hC : ∀ z ∈ C, ok44 z) (hl : C.length ≤ 1000)
include hC hl
theorem rstart_l0 {a : Nat} (ha : a < C.length) : ∀ (m i : Nat), a - i ≤ m → bgR C i = true → (i ≤ a ∨ i = a + 1 ∧ bgR C a = false) → Ev (fun K => stockaderef05_Start.l0 K C (a : Int) (i : Int)) (bgR C a) := by
 have hend : ∀ i : Nat, ¬ i < a → bgR C i = true → (i ≤ a ∨ i = a + 1 ∧ bgR C a = false) → Ev (fun K => stockaderef05_Start.l0 K C (a : Int) (i : Int)) (bgR C a) := fun i hi hb h => by
  refine Ev.of_eq 2 fun K => ?_
  show stockaderef05_Start.l0 (K + 1 + 1) C (a : Int) (i : Int) = _
  rw [stockaderef05_Start.l0, if_neg (by omega), stockaderef05_Start.j1, if_neg (by decide), if_pos (by omega)]
  rcases h with h | ⟨h, hf⟩
  ·have e : i = a := by omega
   rw [if_pos (by rw [e]), ← e, hb, decide_eq_true (by omega)]
  ·rw [if_neg (by omega), hf]
 intro m
 induction m with
 | zero => exact fun i h1 hb h => hend i (by omega) hb h
 | succ m ih =>
  intro i h1 hb h
  by_cases hi : i < a
  rotate_left
  ·exact hend i hi hb h
  have hnext : ∀ s : Nat, stp (rdn C i) = s → Ev (fun K => stockaderef05_Start.l0 K C (a : Int) ((i + s : Nat) : Int)) (bgR C a) := fun s hs => by
   rcases stp_or (rdn C i) with e | e
   ·have : s = 1 := by omega
    subst this
    exact ih (i + 1) (by omega) (bgR_one hs) (Or.inl (by omega))
   ·have : s = 2 := by omega
    subst this
    obtain ⟨e1, e2⟩ := bgR_two hb hs
    refine ih (i + 2) (by omega) e2 ?_
    by_cases c : i + 2 ≤ a
    ·exact Or.inl c
    ·have : i + 1 = a := by omega
     subst this
     exact Or.inr ⟨rfl, e1⟩
  obtain ⟨K0, h0⟩ := hnext (stp (rdn C i)) rfl
  refine ⟨K0 + 202, fun K hK => ?_⟩
  obtain ⟨k, rfl⟩ : ∃ k, K = k + 200 + 1 + 1 := ⟨K - 202, by omega⟩
  have e0 := h0 (k + 200) (by omega)
  have hs := stp_or (rdn C i)
  show stockaderef05_Start.l0 (k + 200 + 1 + 1) C (a : Int) (i : Int) = _
  rw [stockaderef05_Start.l0, if_pos (by omega), decide_eq_true (by omega), stockaderef05_Start.j1, if_pos rfl, if_pos (by omega), if_pos (by omega)]
  have hp := rpl_at (ok_rd hC (i : Int)) k
  rw [hp, Option.bind_some]
  have hx : rd_T44 C (i : Int) = rdn C i := rfl
  rw [hx]
  have hstp : stp (rdn C i) = if plx (rdn C i) = 2 then 2 else 1 := rfl
  rcases plx_le (rdn C i) with e | e | e
  ·rw [if_pos e]
   rw [e] at hstp
   rw [hstp] at e0
   rw [show (1 : Int) = ((1 : Nat) : Int) from rfl, wrN (by omega)]; exact e0
  ·rw [if_neg (by omega), e]
   rw [e] at hstp
   rw [hstp] at e0
   rw [show (1 : Int) = ((1 : Nat) : Int) from rfl, wrN (by omega)]; exact e0
  ·rw [if_neg (by omega), e]
   rw [e] at hstp
   rw [hstp] at e0
   rw [show (2 : Int) = ((2 : Nat) : Int) from rfl, wrN (by omega)]; exact e0
theorem rstart_eq {a : Nat} (ha : a < C.length) : Ev (fun K => stockaderef05_Start.f K C (a : Int)) (bgR C a) := rstart_l0 hC hl ha a 0 (by omega) rfl (Or.inl (Nat.zero_le a))
theorem rleads_eq {a b : Nat} (ha : a < C.length) (hb : b < C.length) : Ev (fun K => stockaderef05_Leads.f K C (a : Int) (b : Int)) (leadB C a b) := by
 obtain ⟨K0, h0⟩ := rstart_eq hC hl ha
 obtain ⟨K1, h1⟩ := rstart_eq hC hl hb
 refine ⟨K0 + K1 + 201, fun K hK => ?_⟩
 obtain ⟨k, rfl⟩ : ∃ k, K = k + 200 + 1 := ⟨K - 201, by omega⟩
 have e0 := h0 (k + 200 + 1) (by omega)
 have e1 := h1 (k + 200 + 1) (by omega)
 dsimp only at e0 e1 ⊢
 unfold stockaderef05_Leads.f leadB
 rw [e0, Option.bind_some]
 cases hs : bgR C a with
 | false => rw [if_neg (by decide), stockaderef05_Leads.j0, if_pos rfl]; rfl
 | true =>
  rw [if_pos rfl, e1, Option.bind_some]
  cases ht : bgR C b with
  | false => rw [stockaderef05_Leads.j0, if_pos (by rfl)]; rfl
  | true =>
   have hp := rof_at (ok_rd hC (a : Int)) k
   rw [stockaderef05_Leads.j0, if_neg (by decide), if_pos (by omega), if_pos (by omega), hp, Option.bind_some]
   have hx : rd_T44 C (a : Int) = rdn C a := rfl
   have hw1 : wrap64 ((a : Int) + 1) = ((a + 1 : Nat) : Int) := wrN (b := 1) (by omega)
   have hw2 : wrap64 ((a : Int) + 2) = ((a + 2 : Nat) : Int) := wrN (b := 2) (by omega)
   have hf : wrap64 (wrap64 ((a : Int) + 1) + wrap64 ((rdn C a).f3)) = farV C (a : Int) := rfl
   rw [hx, hf, hw1, hw2]
   simp only [Bool.true_and]
   have d1 : (((b : Int) == ((a + 1 : Nat) : Int)) : Bool) = decide (b = a + 1) := by rw [Bool.eq_iff_iff, beq_iff_eq, decide_eq_true_eq]; omega
   have d2 : (((b : Int) == ((a + 2 : Nat) : Int)) : Bool) = decide (b = a + 2) := by rw [Bool.eq_iff_iff, beq_iff_eq, decide_eq_true_eq]; omega
   have d3 : (((b : Int) == farV C (a : Int)) : Bool) = decide ((b : Int) = farV C (a : Int)) := by rw [Bool.eq_iff_iff, beq_iff_eq, decide_eq_true_eq]
   rw [d1, d2, d3]
   unfold leadC
   by_cases c0 : (ofx (rdn C a)).2.2.2.2.2 = 0
   rotate_left
   ·rw [if_neg c0, decide_eq_false c0]; rfl
   rw [if_pos c0, decide_eq_true c0, Bool.true_and]
   by_cases c9 : (ofx (rdn C a)).1 = 9
   ·rw [if_pos c9, if_pos c9]
   rw [if_neg c9, if_neg c9]
   by_cases c7 : (ofx (rdn C a)).1 = 7
   ·rw [if_pos c7, if_pos c7]
   rw [if_neg c7, if_neg c7]
   by_cases c6 : (ofx (rdn C a)).1 = 6
   ·rw [if_pos c6, if_pos c6]
    by_cases cf : (b : Int) = farV C (a : Int)
    ·rw [if_pos cf, decide_eq_true (Or.inl cf)]
    ·rw [if_neg cf]
     congr 1
     rw [Bool.eq_iff_iff, decide_eq_true_eq, decide_eq_true_eq]
     exact ⟨Or.inr, fun h => h.resolve_left cf⟩
   rw [if_neg c6, if_neg c6]
   by_cases c10 : (ofx (rdn C a)).1 = 10
   ·rw [if_pos c10, if_pos (Or.inl c10)]
   rw [if_neg c10]
   by_cases c11 : (ofx (rdn C a)).1 = 11
   ·rw [if_pos c11, if_pos (Or.inr c11)]
   rw [if_neg c11, if_neg (fun h => h.elim c10 c11)]
omit hC hl in
theorem lead_cand {a b : Nat} (h : leadB C a b = true) : b = a + 1 ∨ b = a + 2 ∨ (b : Int) = farV C (a : Int) := by
 unfold leadB at h
 simp only [Bool.and_eq_true] at h
 have h := h.2.2.2
 unfold leadC at h
 split at h
 ·exact absurd h (by decide)
 split at h
 ·exact Or.inr (Or.inr (of_decide_eq_true h))
 split at h
 ·rcases of_decide_eq_true h with h | h
  ·exact Or.inr (Or.inr h)
  ·exact Or.inl h
 split at h
 ·exact Or.inr (Or.inl (of_decide_eq_true h))
 ·exact Or.inl (of_decide_eq_true h)
omit hC hl in
theorem fil_succ {p : Nat → Bool} (b : Nat) : toI ((List.range (b + 1)).filter p) = if p b = true then toI ((List.range b).filter p) ++ [(b : Int)] else toI ((List.range b).filter p) := by
 rw [List.range_succ, List.filter_append]
 cases h : p b with
 | false => rw [if_neg (by decide), List.filter_cons_of_neg (by simp [h])]; simp
 | true => rw [if_pos rfl, List.filter_cons_of_pos h, toI_append]; rfl
theorem rnext_l0 {a : Nat} (ha : a < C.length) : ∀ (m b : Nat), C.length - b ≤ m → b ≤ C.length → Ev (fun K => stockaderef05_Next.l0 K C (a : Int) (toI ((List.range b).filter (leadB C a))) (farV C (a : Int)) (b : Int)) (toI (nxt C a)) := by
 have hend : ∀ b : Nat, ¬ b < C.length → b ≤ C.length → Ev (fun K => stockaderef05_Next.l0 K C (a : Int) (toI ((List.range b).filter (leadB C a))) (farV C (a : Int)) (b : Int)) (toI (nxt C a)) := fun b h1 h2 => by
  have e : b = C.length := by omega
  subst e
  refine Ev.of_eq 1 fun K => ?_
  show stockaderef05_Next.l0 (K + 1) _ _ _ _ _ = _
  rw [stockaderef05_Next.l0, if_neg (by omega)]
  unfold nxt
  rw [if_pos ha]
 intro m
 induction m with
 | zero => exact fun b h1 h2 => hend b (by omega) h2
 | succ m ih =>
  intro b h1 h2
  by_cases hb : b < C.length
  rotate_left
  ·exact hend b hb h2
  obtain ⟨K0, h0⟩ := ih (b + 1) (by omega) (by omega)
  obtain ⟨K1, h3⟩ := rleads_eq hC hl ha hb
  refine ⟨K0 + K1 + 1, fun K hK => ?_⟩
  obtain ⟨k, rfl⟩ : ∃ k, K = k + 1 := ⟨K - 1, by omega⟩
  have e0 := h0 k (by omega)
  have e3 := h3 k (by omega)
  have hlen : (toI ((List.range b).filter (leadB C a))).length < 17592186044416 := by
   rw [toI_len]
   have := List.length_filter_le (leadB C a) (List.range b)
   rw [List.length_range] at this
   omega
  have o1 : (b : Int) < (C.length : Int) := by omega
  have o2 : a + 1 ≤ 100000 := by omega
  have o3 : a + 2 ≤ 100000 := by omega
  have o4 : b + 1 ≤ 100000 := by omega
  have hw1 : wrap64 ((a : Int) + 1) = ((a + 1 : Nat) : Int) := wrN (b := 1) o2
  have hw2 : wrap64 ((a : Int) + 2) = ((a + 2 : Nat) : Int) := wrN (b := 2) o3
  have hwb : wrap64 ((b : Int) + 1) = ((b + 1 : Nat) : Int) := wrN (b := 1) o4
  rw [fil_succ] at e0
  dsimp only at e0 e3 ⊢
  rw [stockaderef05_Next.l0, if_pos o1, hw1, hw2, e3, Option.bind_some, hwb]
  have hall : (if leadB C a b = true then (if (toI ((List.range b).filter (leadB C a))).length < 17592186044416 then stockaderef05_Next.l0 k C (a : Int) (toI ((List.range b).filter (leadB C a)) ++ [(b : Int)]) (farV C (a : Int)) ((b + 1 : Nat) : Int) else none) else stockaderef05_Next.l0 k C (a : Int) (toI ((List.range b).filter (leadB C a))) (farV C (a : Int)) ((b + 1 : Nat) : Int)) = some (toI (nxt C a)) := by
   by_cases c : leadB C a b = true
   ·rw [if_pos c] at e0 ⊢
    rw [if_pos hlen]; exact e0
   ·rw [if_neg c] at e0 ⊢; exact e0
  by_cases c1 : (b : Int) = ((a + 1 : Nat) : Int)
  ·rw [if_pos c1]; exact hall
  rw [if_neg c1]
  by_cases c2 : (b : Int) = ((a + 2 : Nat) : Int)
  ·rw [if_pos c2]; exact hall
  rw [if_neg c2]
  by_cases c3 : (b : Int) = farV C (a : Int)
  ·rw [if_pos c3]; exact hall
  rw [if_neg c3]
  have : ¬ leadB C a b = true := fun h => by
   rcases lead_cand h with h | h | h
   ·exact c1 (by rw [h])
   ·exact c2 (by rw [h])
   ·exact c3 h
  rw [if_neg this] at e0
  exact e0
theorem rnext_eq (a : Int) : Ev (fun K => stockaderef05_Next.f K C a) (nxI C a) := by
 by_cases h0 : a < 0
 ·refine Ev.of_eq 1 fun K => ?_
  show stockaderef05_Next.f (K + 1) C a = _
  unfold stockaderef05_Next.f nxI
  rw [if_pos h0, if_pos h0, stockaderef05_Next.j0, if_pos rfl]
 obtain ⟨i, rfl⟩ : ∃ i : Nat, a = (i : Int) := ⟨a.toNat, by omega⟩
 have hnx : nxI C (i : Int) = toI (nxt C i) := by unfold nxI; rw [if_neg (by omega), Int.toNat_natCast]
 rw [hnx]
 by_cases h1 : i < C.length
 ·refine Ev.step (fun K => ?_) (rnext_l0 hC hl h1 C.length 0 (by omega) (by omega))
  unfold stockaderef05_Next.f
  rw [if_neg h0, decide_eq_false (by omega), stockaderef05_Next.j0, if_neg (by decide), if_pos (by omega), if_pos (by omega)]; rfl
 ·refine Ev.of_eq 1 fun K => ?_
  show stockaderef05_Next.f (K + 1) C (i : Int) = _
  unfold stockaderef05_Next.f
  rw [if_neg h0, decide_eq_true (by omega), stockaderef05_Next.j0, if_pos rfl]
  unfold nxt
  rw [if_neg h1]; rfl
end
end Go.Proofs.YtkjcjlegokdpdaaDoor.Pure

namespace Go.Proofs.YtkjcjlegokdpdaaDoor.Pure
open Go.RowKit Go.Proofs.YtkjcjlegokdpdaaDoorW.PrintWords Go.Proofs.YtkjcjlegokdpdaaDoorW.PrintLast Go.Proofs.YtkjcjlegokdpdaaDoorW.PrintMore Go.Proofs.YtkjcjlegokdpdaaDoor.P Go.Proofs.YtkjcjlegokdpdaaDoor.Opening
set_option linter.unusedVariables false
set_option linter.unusedSimpArgs false

def allN (C : List S44) (i : Nat) : List (List Int) := (List.range i).map fun a => toI (nxt C a)
theorem allN_len (C : List S44) (i : Nat) : (allN C i).length = i := by simp [allN]
theorem allN_rd {C : List S44} {n a : Nat} (h : a < n) : rd_L8 (allN C n) (a : Int) = toI (nxt C a) := by
 unfold rd_L8 allN
 rw [Int.toNat_natCast, List.getD_eq_getElem?_getD, List.getElem?_map, List.getElem?_range h]; rfl
theorem ordS_nil {N : Nat → List Nat} {n : Nat} {l : List Bool} (h : zer N n l = []) : ∀ (m : Nat) (row : List Nat), ordS N n m l row = (row, l)
 | 0, row => rfl
 | m + 1, row => by rw [ordS, h]
theorem ordS_cons {N : Nat → List Nat} {n : Nat} {l : List Bool} {t : Nat} {r : List Nat} (h : zer N n l = t :: r) (m : Nat) (row : List Nat) : ordS N n (m + 1) l row = ordS N n m (l.set t false) (row ++ [t]) := by rw [ordS, h]
theorem ordS_pre {N : Nat → List Nat} {n : Nat} : ∀ (m : Nat) (l : List Bool) (row : List Nat), ∃ s, (ordS N n m l row).1 = row ++ s
 | 0, l, row => ⟨[], by simp [ordS]⟩
 | m + 1, l, row => by
  cases h : zer N n l with
  | nil => rw [ordS_nil h]; exact ⟨[], by simp⟩
  | cons t r =>
   rw [ordS_cons h]
   obtain ⟨s, e⟩ := ordS_pre (N := N) (n := n) m (l.set t false) (row ++ [t])
   exact ⟨t :: s, by rw [e]; simp⟩
theorem allN_succ (C : List S44) (i : Nat) : allN C (i + 1) = allN C i ++ [toI (nxt C i)] := by
 unfold allN
 rw [List.range_succ, List.map_append]; rfl
end Go.Proofs.YtkjcjlegokdpdaaDoor.Pure

namespace Go.Proofs.YtkjcjlegokdpdaaDoor.Pure
open Go.RowKit Go.Proofs.YtkjcjlegokdpdaaDoorW.PrintWords Go.Proofs.YtkjcjlegokdpdaaDoorW.PrintLast Go.Proofs.YtkjcjlegokdpdaaDoorW.PrintMore Go.Proofs.YtkjcjlegokdpdaaDoor.P Go.Proofs.YtkjcjlegokdpdaaDoor.Opening
set_option linter.unusedVariables false
set_option linter.unusedSimpArgs false
theorem wr1' {j : Nat} (h : j ≤ 1000) : wrap64 ((j : Int) + 1) = ((j + 1 : Nat) : Int) := by unfold wrap64; omega
section
variable {C : List S44} (hC : ∀ z ∈ C, ok44 z) (hl : C.length ≤ 1000)
include hC hl
theorem rall_l0 : ∀ (m i : Nat), C.length - i ≤ m → i ≤ C.length → Ev (fun K => stockaderef05_All.l0 K C (allN C i) (i : Int)) (allN C C.length) := by
 have hend : ∀ i : Nat, ¬ i < C.length → i ≤ C.length → Ev (fun K => stockaderef05_All.l0 K C (allN C i) (i : Int)) (allN C C.length) := fun i h1 h2 => by
  have e : i = C.length := by omega
  subst e
  refine Ev.of_eq 1 fun K => ?_
  show stockaderef05_All.l0 (K + 1) _ _ _ = _
  rw [stockaderef05_All.l0, if_neg (by omega)]
 intro m
 induction m with
 | zero => exact fun i h1 h2 => hend i (by omega) h2
 | succ m ih =>
  intro i h1 h2
  by_cases hi : i < C.length
  rotate_left
  ·exact hend i hi h2
  obtain ⟨K0, h0⟩ := ih (i + 1) (by omega) (by omega)
  obtain ⟨K1, h3⟩ := rnext_eq hC hl (i : Int)
  have hnx : nxI C (i : Int) = toI (nxt C i) := by unfold nxI; rw [if_neg (by omega), Int.toNat_natCast]
  rw [hnx] at h3
  have hal := allN_len C i
  refine ⟨K0 + K1 + 1, fun K hK => ?_⟩
  obtain ⟨k, rfl⟩ : ∃ k, K = k + 1 := ⟨K - 1, by omega⟩
  have e0 := h0 k (by omega)
  have e3 := h3 k (by omega)
  dsimp only at e0 e3 ⊢
  rw [stockaderef05_All.l0, if_pos (by omega), e3, Option.bind_some, if_pos (by omega), wr1' (by omega), ← allN_succ]
  exact e0
theorem rall_eq : Ev (fun K => stockaderef05_All.f K C) (allN C C.length) := rall_l0 hC hl C.length 0 (by omega) (by omega)
def Some0 (C : List S44) (V : List Bool) : Prop := V.length = C.length ∧ (∀ i, at_ V i = true → Rch (nxt C) i) ∧ at_ V 0 = true
def Turn (V : List Bool) (mo : Bool) (V' : List Bool) (mo' : Bool) : Prop := mo' = mo ∧ V' = V ∨ mo' = true ∧ cnt V < cnt V'
omit hC hl in
theorem Turn.rfl' {V : List Bool} {mo : Bool} : Turn V mo V mo := Or.inl ⟨rfl, rfl⟩
omit hC in
theorem rreach_l2 {a : Nat} (ha : a < C.length) {r : List Bool} : ∀ (m j : Nat) (V : List Bool) (mo : Bool), (nxt C a).length - j ≤ m → Some0 C V → (at_ V a = true → ∀ x ∈ (nxt C a).take j, at_ V x = true) →
  (∀ V' mo', Some0 C V' → Turn V mo V' mo' → (at_ V' a = true → ∀ x ∈ nxt C a, at_ V' x = true) → Ev (fun K => stockaderef05_Reached.l1 K (allN C C.length) V' mo' ((a + 1 : Nat) : Int)) r) →
  Ev (fun K => stockaderef05_Reached.l2 K (allN C C.length) V mo (a : Int) (j : Int)) r := by
 have hal := allN_len C C.length
 have hrd := allN_rd (C := C) ha
 have hnl := nxt_len C a
 have o1 : (0 : Int) ≤ (a : Int) := by omega
 have o2 : (a : Int) < ((allN C C.length).length : Int) := by omega
 have hwa : Aside0 (wrap64 ((a : Int) + 1) = ((a + 1 : Nat) : Int)) := ⟨wr1' (by omega)⟩
 have hend : ∀ (j : Nat) (V : List Bool) (mo : Bool), ¬ j < (nxt C a).length → Some0 C V → (at_ V a = true → ∀ x ∈ (nxt C a).take j, at_ V x = true) →
  (∀ V' mo', Some0 C V' → Turn V mo V' mo' → (at_ V' a = true → ∀ x ∈ nxt C a, at_ V' x = true) → Ev (fun K => stockaderef05_Reached.l1 K (allN C C.length) V' mo' ((a + 1 : Nat) : Int)) r) →
  Ev (fun K => stockaderef05_Reached.l2 K (allN C C.length) V mo (a : Int) (j : Int)) r := fun j V mo hj hS hx k => by
   refine Ev.step (g := fun K => stockaderef05_Reached.j3 K (allN C C.length) V mo (a : Int) (j : Int) false) (fun K => ?_) (Ev.step (fun K => ?_) (k V mo hS Turn.rfl' fun hv x hx' => hx hv x (by rw [List.take_of_length_le (by omega)]; exact hx')))
   ·rw [stockaderef05_Reached.l2, if_pos o1, if_pos o2, hrd, toI_len, if_neg (by omega)]
   ·rw [stockaderef05_Reached.j3, if_neg (by decide), hwa.out]
 intro m
 induction m with
 | zero => exact fun j V mo h1 hS hx k => hend j V mo (by omega) hS hx k
 | succ m ih =>
  intro j V mo h1 hS hx k
  by_cases hj : j < (nxt C a).length
  rotate_left
  ·exact hend j V mo hj hS hx k
  have o3 : (j : Int) < ((nxt C a).length : Int) := by omega
  have o4 : (0 : Int) ≤ (j : Int) := by omega
  have o5 : (a : Int) < (V.length : Int) := by have := hS.1; omega
  have o6 : (nxt C a).length - (j + 1) ≤ m := by omega
  have o7 : j ≤ 1000 := by omega
  by_cases cV : at_ V a = true
  rotate_left
  ·refine Ev.step (g := fun K => stockaderef05_Reached.j3 K (allN C C.length) V mo (a : Int) (j : Int) false) (fun K => ?_) (Ev.step (fun K => ?_) (k V mo hS Turn.rfl' fun hv => absurd hv cV))
   ·rw [stockaderef05_Reached.l2, if_pos o1, if_pos o2, hrd, toI_len, if_pos o3, if_pos o5, rdOf_at, show at_ V a = false by simpa using cV]
   ·rw [stockaderef05_Reached.j3, if_neg (by decide), hwa.out]
  have htk : (nxt C a).take (j + 1) = (nxt C a).take j ++ [(nxt C a)[j]] := List.take_succ_eq_append_getElem hj
  have hrj : rd (toI (nxt C a)) (j : Int) = ((nxt C a)[j] : Int) := rd_toI hj
  have hbn : (nxt C a)[j] ∈ nxt C a := List.getElem_mem hj
  generalize (nxt C a)[j] = b at htk hrj hbn
  have hbl : b < V.length := by rw [hS.1]; exact nxt_lt hbn
  by_cases cb : at_ V b = true
  ·refine Ev.step (g := fun K => stockaderef05_Reached.j3 K (allN C C.length) V mo (a : Int) (j : Int) true) (fun K => ?_) (Ev.step (fun K => ?_) (ih (j + 1) V mo o6 hS (fun hv x hx' => ?_) k))
   ·rw [stockaderef05_Reached.l2, if_pos o1, if_pos o2, hrd, toI_len, if_pos o3, if_pos o5, rdOf_at, cV]
   ·rw [stockaderef05_Reached.j3, if_pos rfl, if_pos o1, if_pos o2, if_pos o4, hrd, toI_len, if_pos o3, hrj, if_pos (Int.natCast_nonneg b), if_pos (Int.ofNat_lt.2 hbl), rdOf_at, if_pos cb, wr1' o7]
   ·rw [htk] at hx'
    rcases List.mem_append.1 hx' with h | h
    ·exact hx hv x h
    ·rw [List.mem_singleton.1 h]; exact cb
  ·have hset : ∀ i, at_ (V.set b true) i = if i = b then true else at_ V i := fun i => at_set hbl
   have hcn : cnt (V.set b true) = cnt V + 1 := cnt_true hbl (by simpa using cb)
   refine Ev.step (g := fun K => stockaderef05_Reached.j3 K (allN C C.length) V mo (a : Int) (j : Int) true) (fun K => ?_) (Ev.step (fun K => ?_) (ih (j + 1) (V.set b true) true o6 ⟨by rw [List.length_set]; exact hS.1, fun i hi => ?_, ?_⟩ (fun hv x hx' => ?_) fun V' mo' h1' h2' h3' => k V' mo' h1' ?_ h3'))
   ·rw [stockaderef05_Reached.l2, if_pos o1, if_pos o2, hrd, toI_len, if_pos o3, if_pos o5, rdOf_at, cV]
   ·rw [stockaderef05_Reached.j3, if_pos rfl, if_pos o1, if_pos o2, if_pos o4, hrd, toI_len, if_pos o3, hrj, if_pos (Int.natCast_nonneg b), if_pos (Int.ofNat_lt.2 hbl), rdOf_at, if_neg cb, wr1' o7, Int.toNat_natCast]
   ·rw [hset] at hi
    by_cases e : i = b
    ·rw [e]; exact (hS.2.1 a cV).step hbn
    ·rw [if_neg e] at hi; exact hS.2.1 i hi
   ·rw [hset]
    split
    ·rfl
    ·exact hS.2.2
   ·rw [hset]
    split
    ·rfl
    ·rename_i hne
     rw [htk] at hx'
     rcases List.mem_append.1 hx' with h | h
     ·exact hx cV x h
     ·exact absurd (List.mem_singleton.1 h) hne
   ·rcases h2' with ⟨e1, e2⟩ | ⟨e1, e2⟩
    ·exact Or.inr ⟨e1, by rw [e2, hcn]; exact Nat.lt_succ_self _⟩
    ·exact Or.inr ⟨e1, by rw [hcn] at e2; exact Nat.lt_of_succ_lt e2⟩
omit hC in
theorem rreach_l1 {V0 r : List Bool} : ∀ (m a : Nat) (V : List Bool) (mo : Bool), C.length - a ≤ m → a ≤ C.length → Some0 C V → (mo = false ∧ V = V0 ∧ (∀ b, b < a → at_ V b = true → ∀ x ∈ nxt C b, at_ V x = true) ∨ mo = true ∧ cnt V0 < cnt V) →
  (∀ V' mo', Some0 C V' → (mo' = false ∧ V' = V0 ∧ (∀ b, b < C.length → at_ V' b = true → ∀ x ∈ nxt C b, at_ V' x = true) ∨ mo' = true ∧ cnt V0 < cnt V') → Ev (fun K => stockaderef05_Reached.l0 K (allN C C.length) V' mo') r) →
  Ev (fun K => stockaderef05_Reached.l1 K (allN C C.length) V mo (a : Int)) r := by
 have hal := allN_len C C.length
 intro m
 have hend : ∀ (a : Nat) (V : List Bool) (mo : Bool), ¬ a < C.length → a ≤ C.length → Some0 C V → (mo = false ∧ V = V0 ∧ (∀ b, b < a → at_ V b = true → ∀ x ∈ nxt C b, at_ V x = true) ∨ mo = true ∧ cnt V0 < cnt V) →
  (∀ V' mo', Some0 C V' → (mo' = false ∧ V' = V0 ∧ (∀ b, b < C.length → at_ V' b = true → ∀ x ∈ nxt C b, at_ V' x = true) ∨ mo' = true ∧ cnt V0 < cnt V') → Ev (fun K => stockaderef05_Reached.l0 K (allN C C.length) V' mo') r) →
  Ev (fun K => stockaderef05_Reached.l1 K (allN C C.length) V mo (a : Int)) r := fun a V mo h1 h2 hS hP k => by
   have e : a = C.length := by omega
   subst e
   refine Ev.step (fun K => ?_) (k V mo hS hP)
   rw [stockaderef05_Reached.l1, if_neg (by omega)]
 induction m with
 | zero => exact fun a V mo h1 h2 hS hP k => hend a V mo (by omega) h2 hS hP k
 | succ m ih =>
  intro a V mo h1 h2 hS hP k
  by_cases ha : a < C.length
  rotate_left
  ·exact hend a V mo ha h2 hS hP k
  have o1 : C.length - (a + 1) ≤ m := by omega
  refine Ev.step (fun K => ?_) (rreach_l2 hl ha (nxt C a).length 0 V mo (by omega) hS (fun _ x hx => by cases hx) fun V' mo' h1' h2' h3' => ih (a + 1) V' mo' o1 ha h1' ?_ k)
  ·rw [stockaderef05_Reached.l1, if_pos (by omega)]; rfl
  ·rcases h2' with ⟨e1, e2⟩ | ⟨e1, e2⟩
   ·rcases hP with ⟨p1, p2, p3⟩ | ⟨p1, p2⟩
    ·refine Or.inl ⟨by rw [e1, p1], by rw [e2, p2], fun b hb hv x hx => ?_⟩
     rcases Nat.lt_or_ge b a with h | h
     ·rw [e2] at hv ⊢; exact p3 b h hv x hx
     ·have : b = a := by omega
      subst this
      exact h3' hv x hx
    ·exact Or.inr ⟨by rw [e1, p1], by rw [e2]; exact p2⟩
   ·refine Or.inr ⟨e1, ?_⟩
    rcases hP with ⟨p1, p2, p3⟩ | ⟨p1, p2⟩
    ·rw [← p2]; exact e2
    ·exact Nat.lt_trans p2 e2
theorem rreach_l0 : ∀ (q : Nat) (V : List Bool), C.length - cnt V ≤ q → Some0 C V → Ev (fun K => stockaderef05_Reached.l0 K (allN C C.length) V true) (inR C) := by
 intro q
 have hfin : ∀ V : List Bool, Some0 C V → (∀ b, b < C.length → at_ V b = true → ∀ x ∈ nxt C b, at_ V x = true) → V = inR C := fun V hS hcl => by
  refine at_ext (by rw [hS.1, inR_len hC hl]) fun i hi => ?_
  have h1 : at_ V i = true ↔ at_ (inR C) i = true := by
   rw [inR_iff hC hl]
   constructor
   ·intro h; exact ⟨by have := at_lt h; rw [← hS.1]; exact this, hS.2.1 i h⟩
   ·rintro ⟨h2, h3⟩
    exact h3 (fun i => at_ V i = true) hS.2.2 fun a b ha hb => hcl a (by have := at_lt ha; rw [← hS.1]; exact this) ha b hb
  cases a : at_ V i <;> cases b : at_ (inR C) i <;> simp [a, b] at h1 ⊢
 induction q with
 | zero =>
  intro V hq hS
  refine Ev.step (fun K => ?_) (rreach_l1 hl (V0 := V) C.length 0 V false (by omega) (by omega) hS (Or.inl ⟨rfl, rfl, fun b hb => by omega⟩) fun V' mo' h1 h2 => ?_)
  ·rw [stockaderef05_Reached.l0, if_pos rfl]; rfl
  ·rcases h2 with ⟨e1, e2, e3⟩ | ⟨e1, e2⟩
   ·subst e1
    refine Ev.of_eq 1 fun K => ?_
    show stockaderef05_Reached.l0 (K + 1) _ _ _ = _
    rw [stockaderef05_Reached.l0, if_neg (by decide), hfin V' h1 e3]
   ·exfalso
    have := cnt_le V'
    rw [h1.1] at this
    omega
 | succ q ih =>
  intro V hq hS
  refine Ev.step (fun K => ?_) (rreach_l1 hl (V0 := V) C.length 0 V false (by omega) (by omega) hS (Or.inl ⟨rfl, rfl, fun b hb => by omega⟩) fun V' mo' h1 h2 => ?_)
  ·rw [stockaderef05_Reached.l0, if_pos rfl]; rfl
  ·rcases h2 with ⟨e1, e2, e3⟩ | ⟨e1, e2⟩
   ·subst e1
    refine Ev.of_eq 1 fun K => ?_
    show stockaderef05_Reached.l0 (K + 1) _ _ _ = _
    rw [stockaderef05_Reached.l0, if_neg (by decide), hfin V' h1 e3]
   ·subst e1
    exact ih V' (by omega) h1
theorem rreach_eq : Ev (fun K => stockaderef05_Reached.f K (allN C C.length)) (inR C) := by
 have hal := allN_len C C.length
 have hil := inR_len hC hl
 by_cases h0 : C.length = 0
 ·refine Ev.of_eq 0 fun K => ?_
  show stockaderef05_Reached.f (K + 0) (allN C C.length) = _
  unfold stockaderef05_Reached.f
  rw [if_pos (by omega), if_pos (by omega), Option.bind_some, if_pos (by omega), hal, Int.toNat_natCast, h0]
  have : inR C = [] := List.length_eq_zero_iff.1 (by omega)
  rw [this]; rfl
 ·have hat0 : ∀ i, at_ (List.replicate C.length false) i = false := fun i => by unfold at_; rw [List.getD_eq_getElem?_getD, List.getElem?_replicate]; split <;> rfl
  have hset : ∀ i, at_ ((List.replicate C.length false).set 0 true) i = if i = 0 then true else false := fun i => by rw [at_set (by rw [List.length_replicate]; omega), hat0]
  obtain ⟨K0, h1⟩ := rreach_l0 hC hl C.length ((List.replicate C.length false).set 0 true) (by omega) ⟨by simp, fun i hi => by
   rw [hset] at hi
   by_cases e : i = 0
   ·rw [e]; exact Rch.zero
   ·rw [if_neg e] at hi; exact absurd hi (by decide), by rw [hset, if_pos rfl]⟩
  refine ⟨K0, fun K hK => ?_⟩
  have e1 := h1 K hK
  dsimp only at e1 ⊢
  unfold stockaderef05_Reached.f
  rw [if_pos (by omega), if_pos (by omega), Option.bind_some, if_neg (by omega), if_pos (by rw [List.length_replicate]; omega), hal, Int.toNat_natCast]
  exact e1
end
end Go.Proofs.YtkjcjlegokdpdaaDoor.Pure

namespace Go.Proofs.YtkjcjlegokdpdaaDoor.Pure
open Go.RowKit Go.Proofs.YtkjcjlegokdpdaaDoorW.PrintWords Go.Proofs.YtkjcjlegokdpdaaDoorW.PrintLast Go.Proofs.YtkjcjlegokdpdaaDoorW.PrintMore Go.Proofs.YtkjcjlegokdpdaaDoor.P Go.Proofs.YtkjcjlegokdpdaaDoor.Opening
set_option linter.unusedVariables false
set_option linter.unusedSimpArgs false
def resS (C : List S44) (q : Nat) (l : List Bool) (row : List Nat) : List Int × Int := if cnt (ordS (nxt C) C.length q l row).2 = 0 then (toI (ordS (nxt C) C.length q l row).1, 0) else ([], 28)
theorem rd_toI_drop {l : List Nat} {k : Nat} (h : k < l.length) : l.drop k = l[k] :: l.drop (k + 1) := List.drop_eq_getElem_cons h
section
variable {C : List S44} (hC : ∀ z ∈ C, ok44 z) (hl : C.length ≤ 1000)
include hl
theorem rord_l2 {left : List Bool} (hlf : left.length = C.length) {rowI : List Int} {i : Int} {a : Nat} (ha : a < C.length) {sm : Bool} {r : List Int × Int} : ∀ (m k : Nat) (held : List Bool), (nxt C a).length - k ≤ m → held.length = C.length →
  (∀ held', held'.length = C.length → (∀ v, at_ held' v = (at_ held v || (at_ left a && decide (v ∈ (nxt C a).drop k)))) → Ev (fun K => stockaderef05_Order.l1 K (allN C C.length) left rowI i held' (sm || at_ left a) ((a + 1 : Nat) : Int)) r) →
  Ev (fun K => stockaderef05_Order.l2 K (allN C C.length) left rowI i held sm (a : Int) (k : Int)) r := by
 have hal := allN_len C C.length
 have hrd := allN_rd (C := C) ha
 have hnl := nxt_len C a
 have o1 : (0 : Int) ≤ (a : Int) := by omega
 have o2 : (a : Int) < ((allN C C.length).length : Int) := by omega
 have o5 : (a : Int) < (left.length : Int) := by omega
 have hwa : wrap64 ((a : Int) + 1) = ((a + 1 : Nat) : Int) := wr1' (by omega)
 have hend : ∀ (k : Nat) (held : List Bool), ¬ k < (nxt C a).length → held.length = C.length →
  (∀ held', held'.length = C.length → (∀ v, at_ held' v = (at_ held v || (at_ left a && decide (v ∈ (nxt C a).drop k)))) → Ev (fun K => stockaderef05_Order.l1 K (allN C C.length) left rowI i held' (sm || at_ left a) ((a + 1 : Nat) : Int)) r) →
  Ev (fun K => stockaderef05_Order.l2 K (allN C C.length) left rowI i held sm (a : Int) (k : Int)) r := fun k held hk hh c => by
   refine Ev.step (fun K => ?_) (c held hh fun v => by rw [List.drop_of_length_le (by omega)]; simp)
   rw [stockaderef05_Order.l2, if_pos o1, if_pos o2, hrd, toI_len, if_neg (by omega), if_pos o5, rdOf_at, hwa]
   cases sm <;> simp
 intro m
 induction m with
 | zero => exact fun k held h1 hh c => hend k held (by omega) hh c
 | succ m ih =>
  intro k held h1 hh c
  by_cases hk : k < (nxt C a).length
  rotate_left
  ·exact hend k held hk hh c
  have o3 : (k : Int) < ((nxt C a).length : Int) := by omega
  have o4 : (0 : Int) ≤ (k : Int) := by omega
  have o7 : k ≤ 1000 := by omega
  by_cases cl : at_ left a = true
  rotate_left
  ·have cl' : at_ left a = false := by simpa using cl
   refine Ev.step (fun K => ?_) (c held hh fun v => by rw [cl']; simp)
   rw [stockaderef05_Order.l2, if_pos o1, if_pos o2, hrd, toI_len, if_pos o3, if_pos o5, rdOf_at, cl', if_neg (by decide), hwa]
   cases sm <;> simp
  have hdr := rd_toI_drop hk
  have hrj : rd (toI (nxt C a)) (k : Int) = ((nxt C a)[k] : Int) := rd_toI hk
  have hbn : (nxt C a)[k] ∈ nxt C a := List.getElem_mem hk
  generalize (nxt C a)[k] = b at hdr hrj hbn
  have hbl : b < held.length := by rw [hh]; exact nxt_lt hbn
  have hset : ∀ x, at_ (held.set b true) x = if x = b then true else at_ held x := fun x => at_set hbl
  refine Ev.step (fun K => ?_) (ih (k + 1) (held.set b true) (by omega) (by rw [List.length_set]; exact hh) fun held' h1' h2' => c held' h1' fun v => ?_)
  ·rw [stockaderef05_Order.l2, if_pos o1, if_pos o2, hrd, toI_len, if_pos o3, if_pos o5, rdOf_at, if_pos cl, if_pos o4, hrj, if_pos (Int.natCast_nonneg b), if_pos (Int.ofNat_lt.2 hbl), wr1' o7, Int.toNat_natCast]
  ·rw [h2', hset, hdr, cl]
   by_cases e : v = b
   ·rw [if_pos e, e]; simp
   ·rw [if_neg e]; simp [e]
theorem rord_l1 {left : List Bool} (hlf : left.length = C.length) {rowI : List Int} {i : Int} {r : List Int × Int} (hz : cnt left = 0 → r = (rowI, 0))
  (hk : cnt left ≠ 0 → ∀ held', held'.length = C.length → (∀ v, at_ held' v = true ↔ ∃ b, b < C.length ∧ at_ left b = true ∧ v ∈ nxt C b) → Ev (fun K => stockaderef05_Order.l3 K (allN C C.length) left rowI i held' 0) r) :
  ∀ (m a : Nat) (held : List Bool) (sm : Bool), C.length - a ≤ m → a ≤ C.length → held.length = C.length → (∀ v, at_ held v = true ↔ ∃ b, b < a ∧ at_ left b = true ∧ v ∈ nxt C b) → (sm = true ↔ ∃ b, b < a ∧ at_ left b = true) →
  Ev (fun K => stockaderef05_Order.l1 K (allN C C.length) left rowI i held sm (a : Int)) r := by
 have hal := allN_len C C.length
 intro m
 have hend : ∀ (a : Nat) (held : List Bool) (sm : Bool), ¬ a < C.length → a ≤ C.length → held.length = C.length → (∀ v, at_ held v = true ↔ ∃ b, b < a ∧ at_ left b = true ∧ v ∈ nxt C b) → (sm = true ↔ ∃ b, b < a ∧ at_ left b = true) →
  Ev (fun K => stockaderef05_Order.l1 K (allN C C.length) left rowI i held sm (a : Int)) r := fun a held sm h1 h2 hh hv hs => by
   have e : a = C.length := by omega
   subst e
   cases sm with
   | true =>
    have hne : cnt left ≠ 0 := fun h0 => by
     obtain ⟨b, _, hb⟩ := hs.1 rfl
     rw [cnt_zero h0 b] at hb; exact absurd hb (by decide)
    refine Ev.step (fun K => ?_) (hk hne held hh hv)
    rw [stockaderef05_Order.l1, if_neg (by omega), if_pos rfl]
   | false =>
    have h0 : cnt left = 0 := cnt_of_none fun b => by
     cases hb : at_ left b with
     | false => rfl
     | true => exact absurd (hs.2 ⟨b, by have := at_lt hb; omega, hb⟩) (by decide)
    rw [hz h0]
    refine Ev.of_eq 1 fun K => ?_
    show stockaderef05_Order.l1 (K + 1) _ _ _ _ _ _ _ = _
    rw [stockaderef05_Order.l1, if_neg (by omega), if_neg (by decide)]
 induction m with
 | zero => exact fun a held sm h1 h2 hh hv hs => hend a held sm (by omega) h2 hh hv hs
 | succ m ih =>
  intro a held sm h1 h2 hh hv hs
  by_cases ha : a < C.length
  rotate_left
  ·exact hend a held sm ha h2 hh hv hs
  refine Ev.step (fun K => ?_) (rord_l2 hl hlf ha (nxt C a).length 0 held (by omega) hh fun held' h1' h2' => ih (a + 1) held' (sm || at_ left a) (by omega) (by omega) h1' (fun v => ?_) ?_)
  ·rw [stockaderef05_Order.l1, if_pos (by omega)]; rfl
  ·rw [h2' v, List.drop_zero, Bool.or_eq_true, hv, Bool.and_eq_true, decide_eq_true_eq]
   constructor
   ·rintro (⟨b, hb, h⟩ | h)
    ·exact ⟨b, by omega, h⟩
    ·exact ⟨a, by omega, h⟩
   ·rintro ⟨b, hb, h⟩
    rcases Nat.lt_or_ge b a with c | c
    ·exact Or.inl ⟨b, c, h⟩
    ·have : b = a := by omega
     subst this
     exact Or.inr h
  ·rw [Bool.or_eq_true, hs]
   constructor
   ·rintro (⟨b, hb, h⟩ | h)
    ·exact ⟨b, by omega, h⟩
    ·exact ⟨a, by omega, h⟩
   ·rintro ⟨b, hb, h⟩
    rcases Nat.lt_or_ge b a with c | c
    ·exact Or.inl ⟨b, c, h⟩
    ·have : b = a := by omega
     subst this
     exact Or.inr h
theorem rord_l3 {left held : List Bool} (hlf : left.length = C.length) (hh : held.length = C.length) (hv : ∀ v, at_ held v = true ↔ ∃ b, b < C.length ∧ at_ left b = true ∧ v ∈ nxt C b) {rowI : List Int} (hrow : rowI.length ≤ 1000) {i : Int} {r : List Int × Int}
  (hz : zer (nxt C) C.length left = [] → r = ([], 28)) (hk : ∀ t s, zer (nxt C) C.length left = t :: s → Ev (fun K => stockaderef05_Order.l0 K (allN C C.length) (left.set t false) (rowI ++ [(t : Int)]) (wrap64 (i + 1))) r) :
  ∀ (m j : Nat), C.length - j ≤ m → j ≤ C.length → (∀ v, v < j → v ∉ zer (nxt C) C.length left) → Ev (fun K => stockaderef05_Order.l3 K (allN C C.length) left rowI i held (j : Int)) r := by
 have hal := allN_len C C.length
 intro m
 have hend : ∀ j : Nat, ¬ j < C.length → j ≤ C.length → (∀ v, v < j → v ∉ zer (nxt C) C.length left) → Ev (fun K => stockaderef05_Order.l3 K (allN C C.length) left rowI i held (j : Int)) r := fun j h1 h2 h3 => by
  have e : j = C.length := by omega
  subst e
  have h0 : zer (nxt C) C.length left = [] := List.eq_nil_iff_forall_not_mem.2 fun v hm => h3 v (mem_zer.1 hm).1 hm
  rw [hz h0]
  refine Ev.of_eq 1 fun K => ?_
  show stockaderef05_Order.l3 (K + 1) _ _ _ _ _ _ = _
  rw [stockaderef05_Order.l3, if_neg (by omega), if_pos (by omega)]
 induction m with
 | zero => exact fun j h1 h2 h3 => hend j (by omega) h2 h3
 | succ m ih =>
  intro j h1 h2 h3
  by_cases hj : j < C.length
  rotate_left
  ·exact hend j hj h2 h3
  have o1 : (j : Int) < ((allN C C.length).length : Int) := by omega
  have o2 : (0 : Int) ≤ (j : Int) := by omega
  have o3 : (j : Int) < (left.length : Int) := by omega
  have o4 : (j : Int) < (held.length : Int) := by omega
  have o5 : ¬ (j : Int) = ((allN C C.length).length : Int) := by omega
  have o6 : rowI.length < 17592186044416 := by omega
  by_cases cj : j ∈ zer (nxt C) C.length left
  ·obtain ⟨c1, c2, c3⟩ := mem_zer.1 cj
   have c4 : at_ held j = false := by
    cases hb : at_ held j with
    | false => rfl
    | true =>
     obtain ⟨b, hb1, hb2, hb3⟩ := (hv j).1 hb
     exact absurd hb3 ((inD_zero j).1 c3 b hb1 hb2)
   obtain ⟨t, s, e⟩ : ∃ t s, zer (nxt C) C.length left = t :: s := by
    cases hq : zer (nxt C) C.length left with
    | nil => rw [hq] at cj; cases cj
    | cons t s => exact ⟨t, s, rfl⟩
   have ht : t = j := by
    have hu : Up (t :: s) := by rw [← e]; exact zer_up _
    have h4 : t ∈ zer (nxt C) C.length left := by rw [e]; exact List.mem_cons_self
    have h5 : ¬ t < j := fun c => h3 t c h4
    rw [e] at cj
    rcases List.mem_cons.1 cj with h | h
    ·exact h.symm
    ·have := (List.pairwise_cons.1 hu).1 j h; omega
   subst ht
   refine Ev.step (fun K => ?_) (hk t s e)
   rw [stockaderef05_Order.l3, if_pos o1, if_pos o2, if_pos o3, rdOf_at, c2, if_pos rfl, if_pos o4, rdOf_at, c4, if_neg (by decide), if_neg o5, if_pos o6, Int.toNat_natCast]
  ·have hnx : ∀ v, v < j + 1 → v ∉ zer (nxt C) C.length left := fun v hv' => by
    rcases Nat.lt_or_ge v j with c | c
    ·exact h3 v c
    ·have : v = j := by omega
     rw [this]; exact cj
   refine Ev.step (fun K => ?_) (ih (j + 1) (by omega) (by omega) hnx)
   cases c2 : at_ left j with
   | false => rw [stockaderef05_Order.l3, if_pos o1, if_pos o2, if_pos o3, rdOf_at, c2, if_neg (by decide), wr1' (by omega)]
   | true =>
    have c4 : at_ held j = true := by
     refine Decidable.byContradiction fun hn => cj (mem_zer.2 ⟨hj, c2, (inD_zero j).2 fun a ha hla hm => hn ((hv j).2 ⟨a, ha, hla, hm⟩)⟩)
    rw [stockaderef05_Order.l3, if_pos o1, if_pos o2, if_pos o3, rdOf_at, c2, if_pos rfl, if_pos o4, rdOf_at, c4, if_pos rfl, wr1' (by omega)]
theorem rord_l0 : ∀ (m i q : Nat) (left : List Bool) (row : List Nat), C.length - i ≤ m → i ≤ C.length → left.length = C.length → cnt left + i ≤ C.length → cnt left ≤ q → row.length + cnt left ≤ C.length →
  Ev (fun K => stockaderef05_Order.l0 K (allN C C.length) left (toI row) (i : Int)) (resS C q left row) := by
 have hal := allN_len C C.length
 have hno : ∀ (q : Nat) (left : List Bool) (row : List Nat), cnt left = 0 → resS C q left row = (toI row, 0) := fun q left row h => by
  have hz : zer (nxt C) C.length left = [] := ordS_end 0 left row (by omega)
  unfold resS
  rw [ordS_nil hz, if_pos h]
 intro m
 have hend : ∀ (i q : Nat) (left : List Bool) (row : List Nat), ¬ i < C.length → cnt left + i ≤ C.length → Ev (fun K => stockaderef05_Order.l0 K (allN C C.length) left (toI row) (i : Int)) (resS C q left row) := fun i q left row h1 h2 => by
  rw [hno q left row (by omega)]
  refine Ev.of_eq 1 fun K => ?_
  show stockaderef05_Order.l0 (K + 1) _ _ _ _ = _
  rw [stockaderef05_Order.l0, if_neg (by omega)]
 induction m with
 | zero => exact fun i q left row h1 h2 h3 h4 h5 h6 => hend i q left row (by omega) h4
 | succ m ih =>
  intro i q left row h1 h2 h3 h4 h5 h6
  by_cases hi : i < C.length
  rotate_left
  ·exact hend i q left row hi h4
  have hrl := toI_len row
  have hrep : ∀ v, at_ (List.replicate C.length false) v = false := fun v => by
   unfold at_; rw [List.getD_eq_getElem?_getD, List.getElem?_replicate]; split <;> rfl
  refine Ev.step (fun K => ?_) (rord_l1 hl h3 (i := (i : Int)) (fun h0 => hno q left row h0) (fun hne held' h1' h2' => ?_) C.length 0 (List.replicate C.length false) false (by omega) (by omega) (by simp) (fun v => ?_) ?_)
  ·rw [stockaderef05_Order.l0, if_pos (by omega), if_pos (by omega), hal, Int.toNat_natCast, if_pos (by omega)]; rfl
  ·refine rord_l3 hl h3 h1' h2' (by omega) (fun h0 => ?_) (fun t s e => ?_) C.length 0 (by omega) (by omega) (fun v hv => by omega)
   ·unfold resS
    rw [ordS_nil h0, if_neg hne]
   ·obtain ⟨q', rfl⟩ : ∃ q', q = q' + 1 := ⟨q - 1, by omega⟩
    have ht : t ∈ zer (nxt C) C.length left := by rw [e]; exact List.mem_cons_self
    have hc := cnt_set (mem_zer.1 ht).2.1
    have := ih (i + 1) q' (left.set t false) (row ++ [t]) (by omega) (by omega) (by rw [List.length_set]; exact h3) (by omega) (by omega) (by rw [List.length_append]; simp; omega)
    unfold resS at this ⊢
    rw [ordS_cons e]
    rw [toI_append] at this
    rw [wr1' (by omega)]
    exact this
  ·rw [hrep]
   exact ⟨fun h => absurd h (by decide), fun ⟨b, hb, _⟩ => absurd hb (by omega)⟩
  ·exact ⟨fun h => absurd h (by decide), fun ⟨b, hb, _⟩ => absurd hb (by omega)⟩
include hC in
theorem rorder_eq : Ev (fun K => stockaderef05_Order.f K (allN C C.length)) (ordR C) := by
 have hil := inR_len hC hl
 have hcl := cnt_le (inR C)
 refine Ev.bind (rreach_eq hC hl) ?_
 exact rord_l0 hl C.length 0 C.length (inR C) [] (by omega) (by omega) hil (by omega) (by omega) (by simp; omega)
end
end Go.Proofs.YtkjcjlegokdpdaaDoor.Pure

namespace Go.Proofs.YtkjcjlegokdpdaaDoor.Pure
set_option linter.unusedVariables false
set_option linter.unusedSimpArgs false

inductive Way (N : Nat → List Nat) : Nat → Nat → Prop
 | z : Way N 0 1
 | s {a b k : Nat} : Way N a k → b ∈ N a → Way N b (k + 1)
theorem Way.pos {N : Nat → List Nat} {v k : Nat} (h : Way N v k) : 1 ≤ k := by cases h <;> omega
theorem Way.rch {N : Nat → List Nat} {v k : Nat} (h : Way N v k) : Rch N v := by
 induction h with
 | z => exact Rch.zero
 | s h hb ih => exact ih.step hb
def Lng (N : Nat → List Nat) (v k : Nat) : Prop := Way N v k ∧ ∀ k', Way N v k' → k' ≤ k
def Most (N : Nat → List Nat) (m : Nat) : Prop := (∃ v, Way N v m) ∧ ∀ v k, Way N v k → k ≤ m
theorem Most.one {N : Nat → List Nat} {m m' : Nat} (h : Most N m) (h' : Most N m') : m = m' := by
 obtain ⟨⟨v, a⟩, b⟩ := h
 obtain ⟨⟨v', a'⟩, b'⟩ := h'
 have := b _ _ a'; have := b' _ _ a; omega
structure Topo (N : Nat → List Nat) (row : List Nat) : Prop where
 mem : ∀ v, v ∈ row ↔ Rch N v
 nd : row.Nodup
 self : ∀ v ∈ row, v ∉ N v
 fwd : row.Pairwise fun v a => v ∉ N a
theorem Topo.pre {N : Nat → List Nat} {p s : List Nat} {t a : Nat} (h : Topo N (p ++ t :: s)) (ha : Rch N a) (ht : t ∈ N a) : a ∈ p := by
 have hm := (h.mem a).2 ha
 rcases List.mem_append.1 hm with hp | hp
 ·exact hp
 ·exfalso
  rcases List.mem_cons.1 hp with e | hs
  ·subst e; exact h.self a hm ht
  ·exact (List.pairwise_cons.1 (List.pairwise_append.1 h.fwd).2.1).1 a hs ht
theorem Topo.post {N : Nat → List Nat} {p s : List Nat} {t b : Nat} (h : Topo N (p ++ t :: s)) (ht : b ∈ N t) : b ∈ s := by
 have hr : Rch N t := (h.mem t).1 (by simp)
 have hm := (h.mem b).2 (hr.step ht)
 rcases List.mem_append.1 hm with hp | hp
 ·exfalso; exact (List.pairwise_append.1 h.fwd).2.2 b hp t (by simp) ht
 ·rcases List.mem_cons.1 hp with e | hs
  ·subst e; exact absurd ht (h.self b hm)
  ·exact hs
theorem Topo.way_le {N : Nat → List Nat} {row : List Nat} (h : Topo N row) {v k : Nat} (hw : Way N v k) : ∃ p s, row = p ++ v :: s ∧ k ≤ p.length + 1 := by
 induction hw with
 | z =>
  obtain ⟨p, s, e⟩ := List.append_of_mem ((h.mem 0).2 Rch.zero)
  exact ⟨p, s, e, by omega⟩
 | @s a b k hw hb ih =>
  obtain ⟨p, s, e, hk⟩ := ih
  subst e
  obtain ⟨p', s', e'⟩ := List.append_of_mem (h.post hb)
  refine ⟨p ++ a :: p', s', by rw [e']; simp, ?_⟩
  rw [List.length_append, List.length_cons]; omega
theorem Topo.way_len {N : Nat → List Nat} {row : List Nat} (h : Topo N row) {v k : Nat} (hw : Way N v k) : k ≤ row.length := by
 obtain ⟨p, s, e, hk⟩ := h.way_le hw
 subst e
 rw [List.length_append, List.length_cons]; omega
structure Inv5 (N : Nat → List Nat) (n : Nat) (l0 l : List Bool) (row : List Nat) : Prop where
 len : l.length = n
 all : ∀ v, at_ l0 v = true ↔ (v ∈ row ∨ at_ l v = true)
 out : ∀ v ∈ row, at_ l v = false
 nd : row.Nodup
 far : ∀ v ∈ row, ∀ a, at_ l a = true → v ∉ N a
 self : ∀ v ∈ row, v ∉ N v
 fwd : row.Pairwise fun v a => v ∉ N a
theorem Inv5.step {N : Nat → List Nat} {n : Nat} {l0 l : List Bool} {row : List Nat} (h : Inv5 N n l0 l row) {t : Nat} (ht : t ∈ zer N n l) : Inv5 N n l0 (l.set t false) (row ++ [t]) := by
 obtain ⟨t1, t2, t3⟩ := mem_zer.1 ht
 have hlen := h.len
 have hs : ∀ x, at_ (l.set t false) x = if x = t then false else at_ l x := fun x => at_set (by omega)
 have t4 := (inD_zero t).1 t3
 have htn : t ∉ row := fun hm => by have := h.out t hm; rw [t2] at this; exact absurd this (by decide)
 refine ⟨by rw [List.length_set]; exact hlen, fun v => ?_, fun v hv => ?_, ?_, fun v hv a ha => ?_, fun v hv => ?_, ?_⟩
 ·rw [h.all, hs, List.mem_append, List.mem_singleton]
  by_cases e : v = t
  ·subst e; simp [t2]
  ·simp [e]
 ·rw [hs]
  split
  ·rfl
  ·rename_i e
   rcases List.mem_append.1 hv with hv | hv
   ·exact h.out v hv
   ·exact absurd (List.mem_singleton.1 hv) e
 ·rw [List.nodup_append]
  refine ⟨h.nd, by simp, fun a ha b hb => ?_⟩
  rw [List.mem_singleton.1 hb]
  exact fun e => htn (e ▸ ha)
 ·rw [hs] at ha
  have ha' : at_ l a = true := by
   by_cases e : a = t
   ·rw [if_pos e] at ha; exact absurd ha (by decide)
   ·rw [if_neg e] at ha; exact ha
  rcases List.mem_append.1 hv with hv | hv
  ·exact h.far v hv a ha'
  ·rw [List.mem_singleton.1 hv]
   exact t4 a (by have := at_lt ha'; omega) ha'
 ·rcases List.mem_append.1 hv with hv | hv
  ·exact h.self v hv
  ·rw [List.mem_singleton.1 hv]; exact t4 t t1 t2
 ·refine List.pairwise_append.2 ⟨h.fwd, List.pairwise_singleton _ _, fun v hv a ha => ?_⟩
  rw [List.mem_singleton.1 ha]
  exact h.far v hv t t2
theorem ordS_inv {N : Nat → List Nat} {n : Nat} {l0 : List Bool} : ∀ (m : Nat) (l : List Bool) (row : List Nat), Inv5 N n l0 l row → Inv5 N n l0 (ordS N n m l row).2 (ordS N n m l row).1
 | 0, l, row, h => h
 | m + 1, l, row, h => by
  rw [ordS]
  cases hz : zer N n l with
  | nil => exact h
  | cons t r => exact ordS_inv m _ _ (h.step (by rw [hz]; exact List.mem_cons_self))
theorem inv_zero {N : Nat → List Nat} {n : Nat} {l0 : List Bool} (h : l0.length = n) : Inv5 N n l0 l0 [] := ⟨h, fun v => by simp, fun v hv => (by cases hv), List.nodup_nil, fun v hv => (by cases hv), fun v hv => (by cases hv), List.Pairwise.nil⟩
theorem ordS_topo {N : Nat → List Nat} {n m : Nat} {l0 : List Bool} (hl : l0.length = n) (hR : ∀ v, at_ l0 v = true ↔ Rch N v) (h : cnt (ordS N n m l0 []).2 = 0) : Topo N (ordS N n m l0 []).1 := by
 have hi := ordS_inv (N := N) (n := n) (l0 := l0) m l0 [] (inv_zero hl)
 refine ⟨fun v => ?_, hi.nd, hi.self, hi.fwd⟩
 rw [← hR, hi.all, cnt_zero h v]; simp
def stepf (N : Nat → List Nat) (t : Nat) (f : Nat → Nat) (v : Nat) : Nat := if v = t then f t + 1 else if v ∈ N t then max (f v) (f t + 1) else f v
structure Jf (N : Nat → List Nat) (p : List Nat) (f : Nat → Nat) (m : Nat) : Prop where
 A : ∀ a ∈ p, Lng N a (f a)
 B : ∀ v, v ∉ p → (f v = 0 ∨ ∃ a ∈ p, v ∈ N a ∧ f v = f a) ∧ ∀ a ∈ p, v ∈ N a → f a ≤ f v
 M : (∀ a ∈ p, f a ≤ m) ∧ (p = [] ∧ m = 0 ∨ ∃ a ∈ p, m = f a)
theorem Jf.zero {N : Nat → List Nat} {f : Nat → Nat} (h : ∀ v, f v = 0) : Jf N [] f 0 := ⟨fun a ha => (by cases ha), fun v _ => ⟨Or.inl (h v), fun a ha => (by cases ha)⟩, fun a ha => (by cases ha), Or.inl ⟨rfl, rfl⟩⟩
theorem Jf.step {N : Nat → List Nat} {p s : List Nat} {t m : Nat} {f : Nat → Nat} (h : Topo N (p ++ t :: s)) (hJ : Jf N p f m) : Jf N (p ++ [t]) (stepf N t f) (max m (f t + 1)) := by
 have htp : t ∉ p := fun hm => (List.nodup_append.1 h.nd).2.2 t hm t (by simp) rfl
 have hpt : ∀ a ∈ p, a ∉ N t := fun a ha => (List.pairwise_append.1 h.fwd).2.2 a ha t (by simp)
 have htr : Rch N t := (h.mem t).1 (by simp)
 have hst : stepf N t f t = f t + 1 := by unfold stepf; rw [if_pos rfl]
 have hsp : ∀ a ∈ p, stepf N t f a = f a := fun a ha => by
  unfold stepf
  rw [if_neg (fun e : a = t => htp (by rw [← e]; exact ha)), if_neg (hpt a ha)]
 have hB := hJ.B t htp
 refine ⟨fun a ha => ?_, fun v hv => ?_, fun a ha => ?_, Or.inr ?_⟩
 ·rcases List.mem_append.1 ha with ha | ha
  ·rw [hsp a ha]; exact hJ.A a ha
  ·rw [List.mem_singleton.1 ha, hst]
   refine ⟨?_, fun k' hk => ?_⟩
   ·rcases hB.1 with e | ⟨a, ha, hta, e⟩
    ·rw [e]
     rcases htr.from with e0 | ⟨a, har, hta⟩
     ·rw [e0]; exact Way.z
     ·have hap := h.pre har hta
      have := hB.2 a hap hta
      have := (hJ.A a hap).1.pos
      omega
    ·rw [e]; exact (hJ.A a ha).1.s hta
   ·cases hk with
    | z => omega
    | s hw hta =>
     have hap := h.pre hw.rch hta
     have := hB.2 _ hap hta
     have := (hJ.A _ hap).2 _ hw
     omega
 ·have hvt : v ≠ t := fun e => hv (by simp [e])
  have hvp : v ∉ p := fun hm => hv (List.mem_append.2 (Or.inl hm))
  obtain ⟨b1, b2⟩ := hJ.B v hvp
  by_cases c : v ∈ N t
  ·have e : stepf N t f v = max (f v) (f t + 1) := by unfold stepf; rw [if_neg hvt, if_pos c]
   rw [e]
   refine ⟨Or.inr ?_, fun a ha hva => ?_⟩
   ·by_cases c2 : f t + 1 ≤ f v
    ·rcases b1 with b1 | ⟨a, ha, hva, b1⟩
     ·omega
     ·exact ⟨a, List.mem_append.2 (Or.inl ha), hva, by rw [hsp a ha]; omega⟩
    ·exact ⟨t, by simp, c, by rw [hst]; omega⟩
   ·rcases List.mem_append.1 ha with ha | ha
    ·rw [hsp a ha]; have := b2 a ha hva; omega
    ·rw [List.mem_singleton.1 ha, hst]; omega
  ·have e : stepf N t f v = f v := by unfold stepf; rw [if_neg hvt, if_neg c]
   rw [e]
   refine ⟨?_, fun a ha hva => ?_⟩
   ·rcases b1 with b1 | ⟨a, ha, hva, b1⟩
    ·exact Or.inl b1
    ·exact Or.inr ⟨a, List.mem_append.2 (Or.inl ha), hva, by rw [hsp a ha]; exact b1⟩
   ·rcases List.mem_append.1 ha with ha | ha
    ·rw [hsp a ha]; exact b2 a ha hva
    ·rw [List.mem_singleton.1 ha] at hva; exact absurd hva c
 ·rcases List.mem_append.1 ha with ha | ha
  ·rw [hsp a ha]; have := hJ.M.1 a ha; omega
  ·rw [List.mem_singleton.1 ha, hst]; omega
 ·by_cases c : f t + 1 ≤ m
  ·rcases hJ.M.2 with ⟨_, e⟩ | ⟨a, ha, e⟩
   ·omega
   ·exact ⟨a, List.mem_append.2 (Or.inl ha), by rw [hsp a ha]; omega⟩
  ·exact ⟨t, by simp, by rw [hst]; omega⟩
theorem Jf.done {N : Nat → List Nat} {row : List Nat} {m : Nat} {f : Nat → Nat} (h : Topo N row) (hJ : Jf N row f m) (hne : row ≠ []) : Most N m := by
 refine ⟨?_, fun v k hw => ?_⟩
 ·rcases hJ.M.2 with ⟨e, _⟩ | ⟨a, ha, e⟩
  ·exact absurd e hne
  ·exact ⟨a, by rw [e]; exact (hJ.A a ha).1⟩
 ·have hv := (h.mem v).2 hw.rch
  have := (hJ.A v hv).2 k hw
  have := hJ.M.1 v hv
  omega
theorem Jf.le {N : Nat → List Nat} {p s : List Nat} {m : Nat} {f : Nat → Nat} (h : Topo N (p ++ s)) (hJ : Jf N p f m) (v : Nat) : f v ≤ (p ++ s).length := by
 by_cases c : v ∈ p
 ·exact h.way_len (hJ.A v c).1
 ·rcases (hJ.B v c).1 with e | ⟨a, ha, _, e⟩
  ·omega
  ·rw [e]; exact h.way_len (hJ.A a ha).1
theorem Jf.most_le {N : Nat → List Nat} {p s : List Nat} {m : Nat} {f : Nat → Nat} (h : Topo N (p ++ s)) (hJ : Jf N p f m) : m ≤ (p ++ s).length := by
 rcases hJ.M.2 with ⟨_, e⟩ | ⟨a, ha, e⟩
 ·omega
 ·rw [e]; exact hJ.le h a
structure Kf (N : Nat → List Nat) (f : Nat → Nat) (m : Nat) : Prop where
 W : ∀ v, 0 < f v → Way N v (f v)
 z : 1 ≤ f 0
 M : ∀ v, f v ≤ m
 E : ∃ v, Way N v m
def Lf (N : Nat → List Nat) (j : Nat) (f : Nat → Nat) : Prop := ∀ v k, Way N v k → k ≤ j → k ≤ f v
def upf (f : Nat → Nat) (b x : Nat) (v : Nat) : Nat := if v = b then x else f v
theorem Kf.step {N : Nat → List Nat} {f : Nat → Nat} {m a b : Nat} (h : Kf N f m) (ha : 0 < f a) (hb : b ∈ N a) : Kf N (upf f b (max (f b) (f a + 1))) (max m (max (f b) (f a + 1))) := by
 have hw : Way N b (max (f b) (f a + 1)) := by
  by_cases c : f a + 1 ≤ f b
  ·rw [Nat.max_eq_left c]; exact h.W b (by omega)
  ·rw [Nat.max_eq_right (by omega)]; exact (h.W a ha).s hb
 refine ⟨fun v hv => ?_, ?_, fun v => ?_, ?_⟩
 ·unfold upf at hv ⊢
  split
  ·rename_i e; rw [e]; exact hw
  ·rename_i e; rw [if_neg e] at hv; exact h.W v hv
 ·unfold upf
  have := h.z
  split
  ·rename_i e; rw [← e]; omega
  ·exact this
 ·unfold upf
  have := h.M v
  split <;> omega
 ·by_cases c : max (f b) (f a + 1) ≤ m
  ·rw [Nat.max_eq_left c]; exact h.E
  ·rw [Nat.max_eq_right (by omega)]; exact ⟨b, hw⟩
theorem upf_ge {f : Nat → Nat} {b x : Nat} (h : f b ≤ x) (v : Nat) : f v ≤ upf f b x v := by
 unfold upf
 split
 ·rename_i e; rw [e]; exact h
 ·exact Nat.le_refl _
theorem Lf.mono {N : Nat → List Nat} {j : Nat} {f g : Nat → Nat} (h : Lf N j f) (hg : ∀ v, f v ≤ g v) : Lf N j g := fun v k hw hk => Nat.le_trans (h v k hw hk) (hg v)
theorem Lf.more {N : Nat → List Nat} {j n : Nat} {f : Nat → Nat} (h0 : 1 ≤ f 0) (hn : ∀ a k, Way N a k → a < n) (h : ∀ a, a < n → ∀ k, Way N a k → k ≤ j → ∀ b ∈ N a, k + 1 ≤ f b) : Lf N (j + 1) f := fun v k hw hk => by
 cases hw with
 | z => exact h0
 | s hw hb => exact h _ (hn _ _ hw) _ hw (by omega) _ hb
theorem Kf.done {N : Nat → List Nat} {f : Nat → Nat} {m j : Nat} (h : Kf N f m) (hL : Lf N j f) (hj : ∀ v k, Way N v k → k ≤ j) : Most N m := ⟨h.E, fun v k hw => Nat.le_trans (hL v k hw (hj v k hw)) (h.M v)⟩
end Go.Proofs.YtkjcjlegokdpdaaDoor.Pure

namespace Go.Proofs.YtkjcjlegokdpdaaDoor.Pure
open Go.RowKit Go.Proofs.YtkjcjlegokdpdaaDoorW.PrintWords Go.Proofs.YtkjcjlegokdpdaaDoorW.PrintLast Go.Proofs.YtkjcjlegokdpdaaDoorW.PrintMore Go.Proofs.YtkjcjlegokdpdaaDoor.P Go.Proofs.YtkjcjlegokdpdaaDoor.Opening
set_option linter.unusedVariables false
set_option linter.unusedSimpArgs false
def FF (F : List Int) (n : Nat) (f : Nat → Nat) : Prop := F.length = n ∧ ∀ v, v < n → rd F (v : Int) = (f v : Int)
theorem FF.set {F : List Int} {n : Nat} {f : Nat → Nat} (h : FF F n f) {b x : Nat} (hb : b < n) : FF (F.set b (x : Int)) n (upf f b x) := by
 refine ⟨by rw [List.length_set]; exact h.1, fun v hv => ?_⟩
 rw [rd_set (by rw [h.1]; exact hb)]
 unfold upf
 split
 ·rfl
 ·exact h.2 v hv
theorem FF.congr {F : List Int} {n : Nat} {f g : Nat → Nat} (h : FF F n f) (e : ∀ v, f v = g v) : FF F n g := ⟨h.1, fun v hv => by rw [← e]; exact h.2 v hv⟩
theorem mx_cast {a b : Nat} : mx (a : Int) (b : Int) = ((max a b : Nat) : Int) := by unfold mx; omega
theorem rd_zeros (n : Nat) : FF (List.replicate n (0 : Int)) n fun _ => 0 := by
 refine ⟨List.length_replicate, fun v hv => ?_⟩
 unfold rd
 rw [List.getD_eq_getElem?_getD, List.getElem?_replicate]; split <;> rfl
section
variable {C : List S44} (hC : ∀ z ∈ C, ok44 z) (hl : C.length ≤ 1000)
include hl
theorem lng_l1 {t : Nat} (ht : t < C.length) (hself : t ∉ nxt C t) {rI : List Int} {S : List Bool} {M nr : Int} {q : Nat} (hq : q ≤ 1000) {r : Int × Int} : ∀ (m j : Nat) (F : List Int) (f : Nat → Nat), (nxt C t).length - j ≤ m → FF F C.length f →
  (∀ F', FF F' C.length (fun v => if v ∈ (nxt C t).drop j then max (f v) (f t) else f v) → Ev (fun K => graph_Longest.l0 K C rI S F' M nr ((q + 1 : Nat) : Int)) r) →
  Ev (fun K => graph_Longest.l1 K C rI S F M (t : Int) (toI (nxt C t)) nr (q : Int) ((nxt C t).length : Int) (j : Int)) r := by
 have hnl := nxt_len C t
 have htl := toI_len (nxt C t)
 intro m
 have hend : ∀ (j : Nat) (F : List Int) (f : Nat → Nat), ¬ j < (nxt C t).length → FF F C.length f →
  (∀ F', FF F' C.length (fun v => if v ∈ (nxt C t).drop j then max (f v) (f t) else f v) → Ev (fun K => graph_Longest.l0 K C rI S F' M nr ((q + 1 : Nat) : Int)) r) →
  Ev (fun K => graph_Longest.l1 K C rI S F M (t : Int) (toI (nxt C t)) nr (q : Int) ((nxt C t).length : Int) (j : Int)) r := fun j F f hj hF c => by
   refine Ev.step (fun K => ?_) (c F (hF.congr fun v => by rw [List.drop_of_length_le (by omega)]; simp))
   rw [graph_Longest.l1, if_neg (by omega), wr1' hq]
 induction m with
 | zero => exact fun j F f h1 hF c => hend j F f (by omega) hF c
 | succ m ih =>
  intro j F f h1 hF c
  by_cases hj : j < (nxt C t).length
  rotate_left
  ·exact hend j F f hj hF c
  have hdr := rd_toI_drop hj
  have hrj : rd (toI (nxt C t)) (j : Int) = ((nxt C t)[j] : Int) := rd_toI hj
  have hbn : (nxt C t)[j] ∈ nxt C t := List.getElem_mem hj
  generalize (nxt C t)[j] = b at hdr hrj hbn
  have hbl : b < C.length := nxt_lt hbn
  have hbt : b ≠ t := fun e => hself (e ▸ hbn)
  have o1 : (j : Int) < ((nxt C t).length : Int) := by omega
  have o2 : (0 : Int) ≤ (j : Int) := by omega
  have o3 : (b : Int) < (F.length : Int) := by have := hF.1; omega
  have o4 : (t : Int) < (F.length : Int) := by have := hF.1; omega
  have o5 : (0 : Int) ≤ (t : Int) := by omega
  have o6 : (0 : Int) ≤ (b : Int) := by omega
  have o7 : j ≤ 1000 := by omega
  refine Ev.step (fun K => ?_) (ih (j + 1) (F.set b ((max (f b) (f t) : Nat) : Int)) (upf f b (max (f b) (f t))) (by omega) (hF.set hbl) fun F' hF' => c F' (hF'.congr fun v => ?_))
  ·rw [graph_Longest.l1, if_pos o1, if_pos o2, htl, if_pos o1, hrj, if_pos o6, if_pos o3, if_pos o5, if_pos o4, hF.2 b hbl, hF.2 t ht, mx_cast, Int.toNat_natCast, wr1' o7]
  ·rw [hdr]
   unfold upf
   rw [if_neg (Ne.symm hbt)]
   by_cases e : v = b
   ·subst e; simp only [if_true, List.mem_cons, true_or]
    split <;> omega
   ·rw [if_neg e]; simp only [List.mem_cons, e, false_or]
include hC in
theorem lng_l0 {row : List Nat} (hT : Topo (nxt C) row) (hrow : ∀ v ∈ row, v < C.length) (hrl : row.length ≤ 1000) : ∀ (m q : Nat) (F : List Int) (f : Nat → Nat) (M : Nat), row.length - q ≤ m → q ≤ row.length → FF F C.length f → Jf (nxt C) (row.take q) f M →
  ∃ f' M', Jf (nxt C) row f' M' ∧ Ev (fun K => graph_Longest.l0 K C (toI row) (stC C) F (M : Int) (row.length : Int) (q : Int)) ((M' : Int), 0) := by
 have htl := toI_len row
 intro m
 have hend : ∀ (q : Nat) (F : List Int) (f : Nat → Nat) (M : Nat), ¬ q < row.length → q ≤ row.length → Jf (nxt C) (row.take q) f M →
  ∃ f' M', Jf (nxt C) row f' M' ∧ Ev (fun K => graph_Longest.l0 K C (toI row) (stC C) F (M : Int) (row.length : Int) (q : Int)) ((M' : Int), 0) := fun q F f M h1 h2 hJ => by
   rw [List.take_of_length_le (by omega)] at hJ
   refine ⟨f, M, hJ, Ev.of_eq 1 fun K => ?_⟩
   show graph_Longest.l0 (K + 1) _ _ _ _ _ _ _ = _
   rw [graph_Longest.l0, if_neg (by omega)]
 induction m with
 | zero => exact fun q F f M h1 h2 hF hJ => hend q F f M (by omega) h2 hJ
 | succ m ih =>
  intro q F f M h1 h2 hF hJ
  by_cases hq : q < row.length
  rotate_left
  ·exact hend q F f M hq h2 hJ
  have hrj : rd (toI row) (q : Int) = (row[q] : Int) := rd_toI hq
  have hsp : row = row.take q ++ row[q] :: row.drop (q + 1) := by rw [← List.drop_eq_getElem_cons hq, List.take_append_drop]
  have htk : row.take (q + 1) = row.take q ++ [row[q]] := List.take_succ_eq_append_getElem hq
  have htm : row[q] ∈ row := List.getElem_mem hq
  generalize row[q] = t at hrj hsp htk htm
  have ht := hrow t htm
  have hself := hT.self t htm
  have hT' : Topo (nxt C) (row.take q ++ t :: row.drop (q + 1)) := by rw [← hsp]; exact hT
  have hJ' := hJ.step hT'
  have hle := hJ.le hT' t
  rw [← hsp] at hle
  rw [← htk] at hJ'
  have hwt : Aside0 (wrap64 ((f t : Int) + 1) = ((f t + 1 : Nat) : Int)) := ⟨wr1' (by omega)⟩
  have hF1 := hF.set (x := f t + 1) ht
  have e1 : upf f t (f t + 1) t = f t + 1 := by unfold upf; rw [if_pos rfl]
  have hd : ∃ f' M', Jf (nxt C) row f' M' ∧ ∀ F', FF F' C.length (stepf (nxt C) t f) → Ev (fun K => graph_Longest.l0 K C (toI row) (stC C) F' ((max M (f t + 1) : Nat) : Int) (row.length : Int) ((q + 1 : Nat) : Int)) ((M' : Int), 0) := by
   refine Classical.byContradiction fun hn => ?_
   obtain ⟨F0, hF0⟩ : ∃ F0, FF F0 C.length (stepf (nxt C) t f) := ⟨(List.range C.length).map fun v => ((stepf (nxt C) t f v : Nat) : Int), by simp, fun v hv => by unfold rd; rw [Int.toNat_natCast, List.getD_eq_getElem?_getD, List.getElem?_map, List.getElem?_range hv]; rfl⟩
   obtain ⟨f', M', g1, g2⟩ := ih (q + 1) F0 _ _ (by omega) (by omega) hF0 hJ'
   refine hn ⟨f', M', g1, fun F' hF' => ?_⟩
   have e : F' = F0 := by
    refine List.ext_getElem (by rw [hF'.1, hF0.1]) fun v h1 h2 => ?_
    have a1 := hF'.2 v (by rw [← hF'.1]; exact h1)
    have a2 := hF0.2 v (by rw [← hF0.1]; exact h2)
    unfold rd at a1 a2
    rw [Int.toNat_natCast, List.getD_eq_getElem?_getD, List.getElem?_eq_getElem h1] at a1
    rw [Int.toNat_natCast, List.getD_eq_getElem?_getD, List.getElem?_eq_getElem h2] at a2
    exact a1.trans a2.symm
   rw [e]; exact g2
  obtain ⟨f', M', g1, g2⟩ := hd
  refine ⟨f', M', g1, Ev.step (fun K => ?_) (lng_l1 hl ht hself (rI := toI row) (S := stC C) (M := ((max M (f t + 1) : Nat) : Int)) (nr := (row.length : Int)) (q := q) (by omega) (nxt C t).length 0 (F.set t ((f t + 1 : Nat) : Int)) (upf f t (f t + 1)) (by omega) hF1 fun F' hF' => g2 F' (hF'.congr fun v => ?_))⟩
  ·have hnx : nxI C (t : Int) = toI (nxt C t) := by unfold nxI; rw [if_neg (by omega), Int.toNat_natCast]
   rw [graph_Longest.l0, if_pos (by omega), if_pos (by omega), if_pos (by omega), hrj, if_pos (by omega), if_pos (by rw [hF.1]; omega), hF.2 t ht, hwt.out, Int.toNat_natCast, Option.bind_some, next_eq hC (by omega), hnx, Option.bind_some, hF1.2 t ht, e1, mx_cast, toI_len]; rfl
  ·rw [List.drop_zero, e1]
   unfold stepf upf
   by_cases e : v = t
   ·subst e; rw [if_neg hself, if_pos rfl, if_pos rfl]
   ·rw [if_neg e, if_neg e]
theorem rlng_l2 {row : List Nat} (hT : Topo (nxt C) row) (hrl : row.length ≤ 1000) {a : Nat} (ha : a < C.length) {i : Int} {jj : Nat} {r : Int × Int} : ∀ (m k : Nat) (F : List Int) (f : Nat → Nat) (M : Nat), (nxt C a).length - k ≤ m → FF F C.length f → Kf (nxt C) f M → Lf (nxt C) jj f → (∀ k', Way (nxt C) a k' → k' ≤ jj → ∀ b ∈ (nxt C a).take k, k' + 1 ≤ f b) →
  (∀ F' f' M', FF F' C.length f' → Kf (nxt C) f' M' → (∀ v, f v ≤ f' v) → (∀ k', Way (nxt C) a k' → k' ≤ jj → ∀ b ∈ nxt C a, k' + 1 ≤ f' b) → Ev (fun K => stockaderef05_Longest.l1 K (allN C C.length) F' ((M' : Nat) : Int) i ((a + 1 : Nat) : Int)) r) →
  Ev (fun K => stockaderef05_Longest.l2 K (allN C C.length) F (M : Int) i (a : Int) (k : Int)) r := by
 have hal := allN_len C C.length
 have hrd := allN_rd (C := C) ha
 have hnl := nxt_len C a
 have o1 : (0 : Int) ≤ (a : Int) := by omega
 have o2 : (a : Int) < ((allN C C.length).length : Int) := by omega
 have hwa : Aside0 (wrap64 ((a : Int) + 1) = ((a + 1 : Nat) : Int)) := ⟨wr1' (by omega)⟩
 intro m
 have hend : ∀ (k : Nat) (F : List Int) (f : Nat → Nat) (M : Nat), ¬ k < (nxt C a).length → FF F C.length f → Kf (nxt C) f M → (∀ k', Way (nxt C) a k' → k' ≤ jj → ∀ b ∈ (nxt C a).take k, k' + 1 ≤ f b) →
  (∀ F' f' M', FF F' C.length f' → Kf (nxt C) f' M' → (∀ v, f v ≤ f' v) → (∀ k', Way (nxt C) a k' → k' ≤ jj → ∀ b ∈ nxt C a, k' + 1 ≤ f' b) → Ev (fun K => stockaderef05_Longest.l1 K (allN C C.length) F' ((M' : Nat) : Int) i ((a + 1 : Nat) : Int)) r) →
  Ev (fun K => stockaderef05_Longest.l2 K (allN C C.length) F (M : Int) i (a : Int) (k : Int)) r := fun k F f M hk hF hK hP c => by
   refine Ev.step (fun K => ?_) (c F f M hF hK (fun _ => Nat.le_refl _) (by rwa [List.take_of_length_le (by omega)] at hP))
   rw [stockaderef05_Longest.l2, if_pos o1, if_pos o2, hrd, toI_len, if_neg (by omega), hwa.out]
 induction m with
 | zero => exact fun k F f M h1 hF hK hL hP c => hend k F f M (by omega) hF hK hP c
 | succ m ih =>
  intro k F f M h1 hF hK hL hP c
  by_cases hk : k < (nxt C a).length
  rotate_left
  ·exact hend k F f M hk hF hK hP c
  have o3 : (k : Int) < ((nxt C a).length : Int) := by omega
  have o4 : (0 : Int) ≤ (k : Int) := by omega
  have o5 : (a : Int) < (F.length : Int) := by have := hF.1; omega
  have o7 : k ≤ 1000 := by omega
  by_cases cf : 0 < f a
  rotate_left
  ·refine Ev.step (fun K => ?_) (c F f M hF hK (fun _ => Nat.le_refl _) fun k' hw hk' => by have := hL a k' hw hk'; have := hw.pos; omega)
   rw [stockaderef05_Longest.l2, if_pos o1, if_pos o2, hrd, toI_len, if_pos o3, if_pos o5, hF.2 a ha, if_neg (by omega), hwa.out]
  have htk : (nxt C a).take (k + 1) = (nxt C a).take k ++ [(nxt C a)[k]] := List.take_succ_eq_append_getElem hk
  have hrj : rd (toI (nxt C a)) (k : Int) = ((nxt C a)[k] : Int) := rd_toI hk
  have hbn : (nxt C a)[k] ∈ nxt C a := List.getElem_mem hk
  generalize (nxt C a)[k] = b at htk hrj hbn
  have hbl : b < C.length := nxt_lt hbn
  have hfa := hT.way_len (hK.W a cf)
  have hw1 : Aside0 (wrap64 ((f a : Int) + 1) = ((f a + 1 : Nat) : Int)) := ⟨wr1' (by omega)⟩
  have o9 : (f a : Int) > 0 := by omega
  have o10 : (nxt C a).length - (k + 1) ≤ m := by omega
  have o8 : (b : Int) < (F.length : Int) := by have := hF.1; omega
  have hge : ∀ v, f v ≤ upf f b (max (f b) (f a + 1)) v := upf_ge (Nat.le_max_left _ _)
  refine Ev.step (fun K => ?_) (ih (k + 1) (F.set b ((max (f b) (f a + 1) : Nat) : Int)) (upf f b (max (f b) (f a + 1))) (max M (max (f b) (f a + 1))) o10 (hF.set hbl) (hK.step cf hbn) (hL.mono hge) (fun k' hw hk' x hx => ?_) fun F' f' M' g1 g2 g3 g4 => c F' f' M' g1 g2 (fun v => Nat.le_trans (hge v) (g3 v)) g4)
  ·rw [stockaderef05_Longest.l2, if_pos o1, if_pos o2, hrd, toI_len, if_pos o3, if_pos o5, hF.2 a ha, if_pos o9, if_pos o4, hrj, if_pos (Int.natCast_nonneg b), if_pos o8, hF.2 b hbl, hw1.out, mx_cast, mx_cast, wr1' o7, Int.toNat_natCast]
  ·rw [htk] at hx
   rcases List.mem_append.1 hx with h | h
   ·exact Nat.le_trans (hP k' hw hk' x h) (hge x)
   ·rw [List.mem_singleton.1 h]
    unfold upf
    rw [if_pos rfl]
    have := hL a k' hw hk'
    omega
theorem rlng_l1 {row : List Nat} (hT : Topo (nxt C) row) (hrl : row.length ≤ 1000) {i : Int} {jj : Nat} {r : Int × Int} (hn : ∀ a k, Way (nxt C) a k → a < C.length)
  (c : ∀ F' f' M', FF F' C.length f' → Kf (nxt C) f' M' → Lf (nxt C) (jj + 1) f' → Ev (fun K => stockaderef05_Longest.l0 K (allN C C.length) F' ((M' : Nat) : Int) (wrap64 (i + 1))) r) : ∀ (m a : Nat) (F : List Int) (f : Nat → Nat) (M : Nat), C.length - a ≤ m → a ≤ C.length → FF F C.length f → Kf (nxt C) f M → Lf (nxt C) jj f → (∀ a', a' < a → ∀ k', Way (nxt C) a' k' → k' ≤ jj → ∀ b ∈ nxt C a', k' + 1 ≤ f b) →
  Ev (fun K => stockaderef05_Longest.l1 K (allN C C.length) F (M : Int) i (a : Int)) r := by
 have hal := allN_len C C.length
 intro m
 have hend : ∀ (a : Nat) (F : List Int) (f : Nat → Nat) (M : Nat), ¬ a < C.length → a ≤ C.length → FF F C.length f → Kf (nxt C) f M → (∀ a', a' < a → ∀ k', Way (nxt C) a' k' → k' ≤ jj → ∀ b ∈ nxt C a', k' + 1 ≤ f b) →
  Ev (fun K => stockaderef05_Longest.l1 K (allN C C.length) F (M : Int) i (a : Int)) r := fun a F f M h1 h2 hF hK hP => by
   have e : a = C.length := by omega
   subst e
   refine Ev.step (fun K => ?_) (c F f M hF hK (Lf.more hK.z hn hP))
   rw [stockaderef05_Longest.l1, if_neg (by omega)]
 induction m with
 | zero => exact fun a F f M h1 h2 hF hK hL hP => hend a F f M (by omega) h2 hF hK hP
 | succ m ih =>
  intro a F f M h1 h2 hF hK hL hP
  by_cases ha : a < C.length
  rotate_left
  ·exact hend a F f M ha h2 hF hK hP
  refine Ev.step (fun K => ?_) (rlng_l2 hl hT hrl ha (i := i) (jj := jj) (nxt C a).length 0 F f M (by omega) hF hK hL (fun k' _ _ b hb => by cases hb) fun F' f' M' g1 g2 g3 g4 => ih (a + 1) F' f' M' (by omega) (by omega) g1 g2 (hL.mono g3) fun a' ha' k' hw hk' b hb => ?_)
  ·rw [stockaderef05_Longest.l1, if_pos (by omega)]; rfl
  ·rcases Nat.lt_or_ge a' a with h | h
   ·exact Nat.le_trans (hP a' h k' hw hk' b hb) (g3 b)
   ·have : a' = a := by omega
    subst this
    exact g4 k' hw hk' b hb
theorem rlng_l0 {row : List Nat} (hT : Topo (nxt C) row) (hrl : row.length ≤ C.length) {Mf : Nat} (hM : Most (nxt C) Mf) (hn : ∀ a k, Way (nxt C) a k → a < C.length) : ∀ (m i : Nat) (F : List Int) (f : Nat → Nat) (M : Nat), C.length - i ≤ m → i ≤ C.length → FF F C.length f → Kf (nxt C) f M → Lf (nxt C) (i + 1) f →
  Ev (fun K => stockaderef05_Longest.l0 K (allN C C.length) F (M : Int) (i : Int)) ((Mf : Int), 0) := by
 have hal := allN_len C C.length
 intro m
 have hend : ∀ (i : Nat) (F : List Int) (f : Nat → Nat) (M : Nat), ¬ i < C.length → i ≤ C.length → Kf (nxt C) f M → Lf (nxt C) (i + 1) f →
  Ev (fun K => stockaderef05_Longest.l0 K (allN C C.length) F (M : Int) (i : Int)) ((Mf : Int), 0) := fun i F f M h1 h2 hK hL => by
   have e := (hK.done hL fun v k hw => by have := hT.way_len hw; omega).one hM
   subst e
   refine Ev.of_eq 1 fun K => ?_
   show stockaderef05_Longest.l0 (K + 1) _ _ _ _ = _
   rw [stockaderef05_Longest.l0, if_neg (by omega)]
 induction m with
 | zero => exact fun i F f M h1 h2 hF hK hL => hend i F f M (by omega) h2 hK hL
 | succ m ih =>
  intro i F f M h1 h2 hF hK hL
  by_cases hi : i < C.length
  rotate_left
  ·exact hend i F f M hi h2 hK hL
  refine Ev.step (fun K => ?_) (rlng_l1 hl hT (by omega) (i := (i : Int)) (jj := i + 1) hn (fun F' f' M' g1 g2 g3 => ?_) C.length 0 F f M (by omega) (by omega) hF hK hL fun a' ha' => by omega)
  ·rw [stockaderef05_Longest.l0, if_pos (by omega)]; rfl
  ·rw [wr1' (by omega)]
   exact ih (i + 1) F' f' M' (by omega) (by omega) g1 g2 g3
include hC in
theorem row_topo (h0 : 0 < C.length) (h : cnt (ordS (nxt C) C.length C.length (inR C) []).2 = 0) : Topo (nxt C) (ordS (nxt C) C.length C.length (inR C) []).1 ∧ (∀ v ∈ (ordS (nxt C) C.length C.length (inR C) []).1, v < C.length) ∧ (ordS (nxt C) C.length C.length (inR C) []).1.length ≤ C.length := by
 have hil := inR_len hC hl
 have hR : ∀ v, Rch (nxt C) v → v < C.length := fun v hv => hv (fun i => i < C.length) h0 fun a b _ hb => nxt_lt hb
 have hT : Topo (nxt C) (ordS (nxt C) C.length C.length (inR C) []).1 := ordS_topo hil (fun v => by
  rw [inR_iff hC hl]; exact ⟨fun h => h.2, fun h => ⟨hR v h, h⟩⟩) h
 refine ⟨hT, fun v hv => hR v ((hT.mem v).1 hv), ?_⟩
 have h1 := ordS_cnt (N := nxt C) (n := C.length) C.length (inR C) []
 have h2 := cnt_le (inR C)
 simp at h1; omega
include hC in
theorem lng_both : ∃ r, Ev (fun K => graph_Longest.f K C) r ∧ Ev (fun K => stockaderef05_Longest.f K (allN C C.length)) r := by
 have hal := allN_len C C.length
 have hst : Ev (fun K => graph_starts.f K C) (stC C) := by
  refine ⟨C.length + 5, fun K hK => ?_⟩
  have := starts_eq hC (by omega) (K - (C.length + 5))
  rwa [show C.length + 5 + (K - (C.length + 5)) = K by omega] at this
 obtain ⟨K0, h0⟩ := rorder_eq hC hl
 obtain ⟨K1, h1⟩ := hst
 by_cases cc : cnt (ordS (nxt C) C.length C.length (inR C) []).2 = 0
 ·have ho : ordR C = (toI (ordS (nxt C) C.length C.length (inR C) []).1, 0) := by unfold ordR; rw [if_pos cc]
  by_cases c0 : C.length = 0
  ·have hr : (ordS (nxt C) C.length C.length (inR C) []).1 = [] := by
    have h1 := ordS_cnt (N := nxt C) (n := C.length) C.length (inR C) []
    have h2 := cnt_le (inR C)
    have h3 := inR_len hC hl
    exact List.length_eq_zero_iff.1 (by simp at h1; omega)
   rw [hr] at ho
   refine ⟨(0, 0), ⟨K1 + 1, fun K hK => ?_⟩, ⟨K0, fun K hK => ?_⟩⟩
   ·obtain ⟨k, rfl⟩ : ∃ k, K = k + 1 := ⟨K - 1, by omega⟩
    have e1 := h1 (k + 1) (by omega)
    dsimp only at e1 ⊢
    unfold graph_Longest.f
    rw [Order_eq hC hl, Option.bind_some, ho]
    dsimp only
    rw [if_pos rfl, e1, Option.bind_some, if_pos (by omega), if_pos (by rw [c0]; decide), graph_Longest.l0, if_neg (by decide)]
   ·have e0 := h0 K hK
    dsimp only at e0 ⊢
    unfold stockaderef05_Longest.f
    rw [e0, Option.bind_some, ho]
    dsimp only
    rw [if_pos rfl, if_pos (by omega)]
  ·obtain ⟨hT, hrow, hrl⟩ := row_topo hC hl (by omega) cc
   generalize (ordS (nxt C) C.length C.length (inR C) []).1 = row at hT hrow hrl ho
   obtain ⟨f', M', g1, K2, g2⟩ := lng_l0 hC hl hT hrow (by omega) row.length 0 (List.replicate C.length 0) (fun _ => 0) 0 (by omega) (by omega) (rd_zeros _) (Jf.zero fun _ => rfl)
   have hne : row ≠ [] := fun e => by have := (hT.mem 0).2 Rch.zero; rw [e] at this; cases this
   have hM := g1.done hT hne
   have hn : ∀ a k, Way (nxt C) a k → a < C.length := fun a k hw => hrow a ((hT.mem a).2 hw.rch)
   have hF1 := (rd_zeros C.length).set (b := 0) (x := 1) (by omega)
   have hK1 : Kf (nxt C) (upf (fun _ => 0) 0 1) 1 := by
    refine ⟨fun v hv => ?_, by unfold upf; simp, fun v => ?_, ⟨0, Way.z⟩⟩
    ·unfold upf at hv ⊢
     split at hv
     ·rename_i e; rw [if_pos e, e]; exact Way.z
     ·simp at hv
    ·unfold upf; split <;> simp
   have hL1 : Lf (nxt C) (0 + 1) (upf (fun _ => 0) 0 1) := fun v k hw hk => by
    cases hw with
    | z => unfold upf; simp
    | s hw hb => have := hw.pos; omega
   obtain ⟨K3, g3⟩ := rlng_l0 hl hT hrl hM hn C.length 0 _ _ 1 (by omega) (by omega) hF1 hK1 hL1
   refine ⟨((M' : Int), 0), ⟨K1 + K2, fun K hK => ?_⟩, ⟨K0 + K3, fun K hK => ?_⟩⟩
   ·have e1 := h1 K (by omega)
    have e2 := g2 K (by omega)
    dsimp only at e1 e2 ⊢
    unfold graph_Longest.f
    rw [Order_eq hC hl, Option.bind_some, ho]
    dsimp only
    rw [if_pos rfl, e1, Option.bind_some, if_pos (by omega), Int.toNat_natCast, if_pos (by omega), toI_len]
    exact e2
   ·have e0 := h0 K (by omega)
    have e3 := g3 K (by omega)
    dsimp only at e0 e3 ⊢
    unfold stockaderef05_Longest.f
    rw [e0, Option.bind_some, ho]
    dsimp only
    rw [if_pos rfl, if_neg (by omega), if_pos (by omega), hal, Int.toNat_natCast, if_pos (by omega), Option.bind_some, List.length_replicate, if_pos (by omega)]
    exact e3
 ·have ho : ordR C = ([], 28) := by unfold ordR; rw [if_neg cc]
  refine ⟨(0, 28), ⟨0, fun K hK => ?_⟩, ⟨K0, fun K hK => ?_⟩⟩
  ·dsimp only
   unfold graph_Longest.f
   rw [Order_eq hC hl, Option.bind_some, ho]
   dsimp only
   rw [if_neg (by decide)]
  ·have e0 := h0 K hK
   dsimp only at e0 ⊢
   unfold stockaderef05_Longest.f
   rw [e0, Option.bind_some, ho]
   dsimp only
   rw [if_neg (by decide)]
end
end Go.Proofs.YtkjcjlegokdpdaaDoor.Pure

namespace Go.Proofs.YtkjcjlegokdpdaaDoor.Pure
open Go.RowKit Go.Proofs.YtkjcjlegokdpdaaDoorW.PrintWords Go.Proofs.YtkjcjlegokdpdaaDoorW.PrintLast Go.Proofs.YtkjcjlegokdpdaaDoorW.PrintMore Go.Proofs.YtkjcjlegokdpdaaDoor.P Go.Proofs.YtkjcjlegokdpdaaDoor.Opening
set_option linter.unusedVariables false
set_option linter.unusedSimpArgs false
theorem GraphOrders (l0 : List P.S44) (y0 : l0.length * 12 ≤ 140737488351232) (hw0 : ∀ z ∈ l0, Opening.ok44 z) : ∃ k, P.stockadelaw05_GraphOrders.f k l0 = some true := by
 by_cases c : (l0.length : Int) > 130
 ·refine ⟨40, ?_⟩
  unfold stockadelaw05_GraphOrders.f
  rw [if_pos c, wakes_eq]; rfl
 ·have hl : l0.length ≤ 1000 := by omega
  obtain ⟨r, ⟨K0, h0⟩, ⟨K1, h1⟩⟩ := lng_both hw0 hl
  obtain ⟨K2, h2⟩ := rall_eq hw0 hl
  obtain ⟨K3, h3⟩ := rorder_eq hw0 hl
  have ho := ordR_len hw0 hl
  refine ⟨2000 + (K0 + K1 + K2 + K3), ?_⟩
  have e0 := h0 (2000 + (K0 + K1 + K2 + K3)) (by omega)
  have e1 := h1 (2000 + (K0 + K1 + K2 + K3)) (by omega)
  have e2 := h2 (2000 + (K0 + K1 + K2 + K3)) (by omega)
  have e3 := h3 (2000 + (K0 + K1 + K2 + K3)) (by omega)
  dsimp only at e0 e1 e2 e3
  unfold stockadelaw05_GraphOrders.f
  rw [if_neg c, own_eq (by omega), Option.bind_some, Order_eq hw0 hl, Option.bind_some, e0, Option.bind_some, e2, Option.bind_some, e3, Option.bind_some, e1, Option.bind_some, if_pos rfl, if_pos rfl, ints_same (by omega) (by omega), Option.bind_some, if_pos rfl, if_pos rfl, kept_eq hl (by omega), Option.bind_some, if_pos rfl, wakes_ge (by omega)]; rfl
end Go.Proofs.YtkjcjlegokdpdaaDoor.Pure
