/- Chapter 05: the document's All, Reached. -/
import Derived.Test.YtkjcjlegokdpdaaDoorRn
import Derived.Test.YtkjcjlegokdpdaaDoorGl
import Derived.Test.YtkjcjlegokdpdaaDoorPx19
import Derived.Test.YtkjcjlegokdpdaaDoorPx19
namespace Go.Proofs.YtkjcjlegokdpdaaDoor.Pure
open Go.RowKit Go.Proofs.YtkjcjlegokdpdaaDoorW.PrintWords Go.Proofs.YtkjcjlegokdpdaaDoorW.PrintLast Go.Proofs.YtkjcjlegokdpdaaDoorW.PrintMore Go.Proofs.YtkjcjlegokdpdaaDoor.P Go.Proofs.YtkjcjlegokdpdaaDoor.Opening
set_option linter.unusedVariables false
set_option linter.unusedSimpArgs false
theorem wr1' {j : Nat} (h : j ≤ 1000) : wrap64 ((j : Int) + 1) = ((j + 1 : Nat) : Int) := by unfold wrap64; omega
section
variable {C : List S44} (hC : ∀ z ∈ C, ok44 z) (hl : C.length ≤ 1000)
include hC hl
theorem rall_l0 : ∀ (m i : Nat), C.length - i ≤ m → i ≤ C.length → Ev (fun K => stockaderef05_All.l0 K C (allN C i) (i : Int)) (allN C C.length) := by
  have hend : ∀ i : Nat, ¬ i < C.length → i ≤ C.length → Ev (fun K => stockaderef05_All.l0 K C (allN C i) (i : Int)) (allN C C.length) := fun i h1 h2 => by
    have e : i = C.length := by omega
    subst e
    refine Ev.of_eq 1 fun K => ?_
    show stockaderef05_All.l0 (K + 1) _ _ _ = _
    rw [stockaderef05_All.l0, if_neg (by omega)]
  intro m
  induction m with
  | zero => exact fun i h1 h2 => hend i (by omega) h2
  | succ m ih =>
    intro i h1 h2
    by_cases hi : i < C.length
    rotate_left
    · exact hend i hi h2
    obtain ⟨K0, h0⟩ := ih (i + 1) (by omega) (by omega)
    obtain ⟨K1, h3⟩ := rnext_eq hC hl (i : Int)
    have hnx : nxI C (i : Int) = toI (nxt C i) := by unfold nxI; rw [if_neg (by omega), Int.toNat_natCast]
    rw [hnx] at h3
    have hal := allN_len C i
    refine ⟨K0 + K1 + 1, fun K hK => ?_⟩
    obtain ⟨k, rfl⟩ : ∃ k, K = k + 1 := ⟨K - 1, by omega⟩
    have e0 := h0 k (by omega)
    have e3 := h3 k (by omega)
    dsimp only at e0 e3 ⊢
    rw [stockaderef05_All.l0, if_pos (by omega), e3, Option.bind_some, if_pos (by omega), wr1' (by omega), ← allN_succ]
    exact e0
theorem rall_eq : Ev (fun K => stockaderef05_All.f K C) (allN C C.length) := rall_l0 hC hl C.length 0 (by omega) (by omega)
/-- Some of what is reached, 0 among it. -/
def Some0 (C : List S44) (V : List Bool) : Prop := V.length = C.length ∧ (∀ i, at_ V i = true → Rch (nxt C) i) ∧ at_ V 0 = true
/-- Nothing has changed, or something more is there. -/
def Turn (V : List Bool) (mo : Bool) (V' : List Bool) (mo' : Bool) : Prop := mo' = mo ∧ V' = V ∨ mo' = true ∧ cnt V < cnt V'
omit hC hl in
theorem Turn.rfl' {V : List Bool} {mo : Bool} : Turn V mo V mo := Or.inl ⟨rfl, rfl⟩
omit hC in
theorem rreach_l2 {a : Nat} (ha : a < C.length) {r : List Bool} : ∀ (m j : Nat) (V : List Bool) (mo : Bool), (nxt C a).length - j ≤ m → Some0 C V → (at_ V a = true → ∀ x ∈ (nxt C a).take j, at_ V x = true) →
    (∀ V' mo', Some0 C V' → Turn V mo V' mo' → (at_ V' a = true → ∀ x ∈ nxt C a, at_ V' x = true) → Ev (fun K => stockaderef05_Reached.l1 K (allN C C.length) V' mo' ((a + 1 : Nat) : Int)) r) →
    Ev (fun K => stockaderef05_Reached.l2 K (allN C C.length) V mo (a : Int) (j : Int)) r := by
  have hal := allN_len C C.length
  have hrd := allN_rd (C := C) ha
  have hnl := nxt_len C a
  have o1 : (0 : Int) ≤ (a : Int) := by omega
  have o2 : (a : Int) < ((allN C C.length).length : Int) := by omega
  have hwa : Aside0 (wrap64 ((a : Int) + 1) = ((a + 1 : Nat) : Int)) := ⟨wr1' (by omega)⟩
  have hend : ∀ (j : Nat) (V : List Bool) (mo : Bool), ¬ j < (nxt C a).length → Some0 C V → (at_ V a = true → ∀ x ∈ (nxt C a).take j, at_ V x = true) →
    (∀ V' mo', Some0 C V' → Turn V mo V' mo' → (at_ V' a = true → ∀ x ∈ nxt C a, at_ V' x = true) → Ev (fun K => stockaderef05_Reached.l1 K (allN C C.length) V' mo' ((a + 1 : Nat) : Int)) r) →
    Ev (fun K => stockaderef05_Reached.l2 K (allN C C.length) V mo (a : Int) (j : Int)) r := fun j V mo hj hS hx k => by
      refine Ev.step (g := fun K => stockaderef05_Reached.j3 K (allN C C.length) V mo (a : Int) (j : Int) false) (fun K => ?_) (Ev.step (fun K => ?_) (k V mo hS Turn.rfl' fun hv x hx' => hx hv x (by rw [List.take_of_length_le (by omega)]; exact hx')))
      · rw [stockaderef05_Reached.l2, if_pos o1, if_pos o2, hrd, toI_len, if_neg (by omega)]
      · rw [stockaderef05_Reached.j3, if_neg (by decide), hwa.out]
  intro m
  induction m with
  | zero => exact fun j V mo h1 hS hx k => hend j V mo (by omega) hS hx k
  | succ m ih =>
    intro j V mo h1 hS hx k
    by_cases hj : j < (nxt C a).length
    rotate_left
    · exact hend j V mo hj hS hx k
    have o3 : (j : Int) < ((nxt C a).length : Int) := by omega
    have o4 : (0 : Int) ≤ (j : Int) := by omega
    have o5 : (a : Int) < (V.length : Int) := by have := hS.1; omega
    have o6 : (nxt C a).length - (j + 1) ≤ m := by omega
    have o7 : j ≤ 1000 := by omega
    by_cases cV : at_ V a = true
    rotate_left
    · refine Ev.step (g := fun K => stockaderef05_Reached.j3 K (allN C C.length) V mo (a : Int) (j : Int) false) (fun K => ?_) (Ev.step (fun K => ?_) (k V mo hS Turn.rfl' fun hv => absurd hv cV))
      · rw [stockaderef05_Reached.l2, if_pos o1, if_pos o2, hrd, toI_len, if_pos o3, if_pos o5, rdOf_at, show at_ V a = false by simpa using cV]
      · rw [stockaderef05_Reached.j3, if_neg (by decide), hwa.out]
    have htk : (nxt C a).take (j + 1) = (nxt C a).take j ++ [(nxt C a)[j]] := List.take_succ_eq_append_getElem hj
    have hrj : rd (toI (nxt C a)) (j : Int) = ((nxt C a)[j] : Int) := rd_toI hj
    have hbn : (nxt C a)[j] ∈ nxt C a := List.getElem_mem hj
    generalize (nxt C a)[j] = b at htk hrj hbn
    have hbl : b < V.length := by rw [hS.1]; exact nxt_lt hbn
    by_cases cb : at_ V b = true
    · refine Ev.step (g := fun K => stockaderef05_Reached.j3 K (allN C C.length) V mo (a : Int) (j : Int) true) (fun K => ?_) (Ev.step (fun K => ?_) (ih (j + 1) V mo o6 hS (fun hv x hx' => ?_) k))
      · rw [stockaderef05_Reached.l2, if_pos o1, if_pos o2, hrd, toI_len, if_pos o3, if_pos o5, rdOf_at, cV]
      · rw [stockaderef05_Reached.j3, if_pos rfl, if_pos o1, if_pos o2, if_pos o4, hrd, toI_len, if_pos o3, hrj, if_pos (Int.natCast_nonneg b), if_pos (Int.ofNat_lt.2 hbl), rdOf_at, if_pos cb, wr1' o7]
      · rw [htk] at hx'
        rcases List.mem_append.1 hx' with h | h
        · exact hx hv x h
        · rw [List.mem_singleton.1 h]; exact cb
    · have hset : ∀ i, at_ (V.set b true) i = if i = b then true else at_ V i := fun i => at_set hbl
      have hcn : cnt (V.set b true) = cnt V + 1 := cnt_true hbl (by simpa using cb)
      refine Ev.step (g := fun K => stockaderef05_Reached.j3 K (allN C C.length) V mo (a : Int) (j : Int) true) (fun K => ?_) (Ev.step (fun K => ?_) (ih (j + 1) (V.set b true) true o6 ⟨by rw [List.length_set]; exact hS.1, fun i hi => ?_, ?_⟩ (fun hv x hx' => ?_) fun V' mo' h1' h2' h3' => k V' mo' h1' ?_ h3'))
      · rw [stockaderef05_Reached.l2, if_pos o1, if_pos o2, hrd, toI_len, if_pos o3, if_pos o5, rdOf_at, cV]
      · rw [stockaderef05_Reached.j3, if_pos rfl, if_pos o1, if_pos o2, if_pos o4, hrd, toI_len, if_pos o3, hrj, if_pos (Int.natCast_nonneg b), if_pos (Int.ofNat_lt.2 hbl), rdOf_at, if_neg cb, wr1' o7, Int.toNat_natCast]
      · rw [hset] at hi
        by_cases e : i = b
        · rw [e]; exact (hS.2.1 a cV).step hbn
        · rw [if_neg e] at hi; exact hS.2.1 i hi
      · rw [hset]
        split
        · rfl
        · exact hS.2.2
      · rw [hset]
        split
        · rfl
        · rename_i hne
          rw [htk] at hx'
          rcases List.mem_append.1 hx' with h | h
          · exact hx cV x h
          · exact absurd (List.mem_singleton.1 h) hne
      · rcases h2' with ⟨e1, e2⟩ | ⟨e1, e2⟩
        · exact Or.inr ⟨e1, by rw [e2, hcn]; exact Nat.lt_succ_self _⟩
        · exact Or.inr ⟨e1, by rw [hcn] at e2; exact Nat.lt_of_succ_lt e2⟩
omit hC in
theorem rreach_l1 {V0 r : List Bool} : ∀ (m a : Nat) (V : List Bool) (mo : Bool), C.length - a ≤ m → a ≤ C.length → Some0 C V → (mo = false ∧ V = V0 ∧ (∀ b, b < a → at_ V b = true → ∀ x ∈ nxt C b, at_ V x = true) ∨ mo = true ∧ cnt V0 < cnt V) →
    (∀ V' mo', Some0 C V' → (mo' = false ∧ V' = V0 ∧ (∀ b, b < C.length → at_ V' b = true → ∀ x ∈ nxt C b, at_ V' x = true) ∨ mo' = true ∧ cnt V0 < cnt V') → Ev (fun K => stockaderef05_Reached.l0 K (allN C C.length) V' mo') r) →
    Ev (fun K => stockaderef05_Reached.l1 K (allN C C.length) V mo (a : Int)) r := by
  have hal := allN_len C C.length
  intro m
  have hend : ∀ (a : Nat) (V : List Bool) (mo : Bool), ¬ a < C.length → a ≤ C.length → Some0 C V → (mo = false ∧ V = V0 ∧ (∀ b, b < a → at_ V b = true → ∀ x ∈ nxt C b, at_ V x = true) ∨ mo = true ∧ cnt V0 < cnt V) →
    (∀ V' mo', Some0 C V' → (mo' = false ∧ V' = V0 ∧ (∀ b, b < C.length → at_ V' b = true → ∀ x ∈ nxt C b, at_ V' x = true) ∨ mo' = true ∧ cnt V0 < cnt V') → Ev (fun K => stockaderef05_Reached.l0 K (allN C C.length) V' mo') r) →
    Ev (fun K => stockaderef05_Reached.l1 K (allN C C.length) V mo (a : Int)) r := fun a V mo h1 h2 hS hP k => by
      have e : a = C.length := by omega
      subst e
      refine Ev.step (fun K => ?_) (k V mo hS hP)
      rw [stockaderef05_Reached.l1, if_neg (by omega)]
  induction m with
  | zero => exact fun a V mo h1 h2 hS hP k => hend a V mo (by omega) h2 hS hP k
  | succ m ih =>
    intro a V mo h1 h2 hS hP k
    by_cases ha : a < C.length
    rotate_left
    · exact hend a V mo ha h2 hS hP k
    have o1 : C.length - (a + 1) ≤ m := by omega
    refine Ev.step (fun K => ?_) (rreach_l2 hl ha (nxt C a).length 0 V mo (by omega) hS (fun _ x hx => by cases hx) fun V' mo' h1' h2' h3' => ih (a + 1) V' mo' o1 ha h1' ?_ k)
    · rw [stockaderef05_Reached.l1, if_pos (by omega)]; rfl
    · rcases h2' with ⟨e1, e2⟩ | ⟨e1, e2⟩
      · rcases hP with ⟨p1, p2, p3⟩ | ⟨p1, p2⟩
        · refine Or.inl ⟨by rw [e1, p1], by rw [e2, p2], fun b hb hv x hx => ?_⟩
          rcases Nat.lt_or_ge b a with h | h
          · rw [e2] at hv ⊢; exact p3 b h hv x hx
          · have : b = a := by omega
            subst this
            exact h3' hv x hx
        · exact Or.inr ⟨by rw [e1, p1], by rw [e2]; exact p2⟩
      · refine Or.inr ⟨e1, ?_⟩
        rcases hP with ⟨p1, p2, p3⟩ | ⟨p1, p2⟩
        · rw [← p2]; exact e2
        · exact Nat.lt_trans p2 e2
theorem rreach_l0 : ∀ (q : Nat) (V : List Bool), C.length - cnt V ≤ q → Some0 C V → Ev (fun K => stockaderef05_Reached.l0 K (allN C C.length) V true) (inR C) := by
  intro q
  have hfin : ∀ V : List Bool, Some0 C V → (∀ b, b < C.length → at_ V b = true → ∀ x ∈ nxt C b, at_ V x = true) → V = inR C := fun V hS hcl => by
    refine at_ext (by rw [hS.1, inR_len hC hl]) fun i hi => ?_
    have h1 : at_ V i = true ↔ at_ (inR C) i = true := by
      rw [inR_iff hC hl]
      constructor
      · intro h; exact ⟨by have := at_lt h; rw [← hS.1]; exact this, hS.2.1 i h⟩
      · rintro ⟨h2, h3⟩
        exact h3 (fun i => at_ V i = true) hS.2.2 fun a b ha hb => hcl a (by have := at_lt ha; rw [← hS.1]; exact this) ha b hb
    cases a : at_ V i <;> cases b : at_ (inR C) i <;> simp [a, b] at h1 ⊢
  induction q with
  | zero =>
    intro V hq hS
    refine Ev.step (fun K => ?_) (rreach_l1 hl (V0 := V) C.length 0 V false (by omega) (by omega) hS (Or.inl ⟨rfl, rfl, fun b hb => by omega⟩) fun V' mo' h1 h2 => ?_)
    · rw [stockaderef05_Reached.l0, if_pos rfl]; rfl
    · rcases h2 with ⟨e1, e2, e3⟩ | ⟨e1, e2⟩
      · subst e1
        refine Ev.of_eq 1 fun K => ?_
        show stockaderef05_Reached.l0 (K + 1) _ _ _ = _
        rw [stockaderef05_Reached.l0, if_neg (by decide), hfin V' h1 e3]
      · exfalso
        have := cnt_le V'
        rw [h1.1] at this
        omega
  | succ q ih =>
    intro V hq hS
    refine Ev.step (fun K => ?_) (rreach_l1 hl (V0 := V) C.length 0 V false (by omega) (by omega) hS (Or.inl ⟨rfl, rfl, fun b hb => by omega⟩) fun V' mo' h1 h2 => ?_)
    · rw [stockaderef05_Reached.l0, if_pos rfl]; rfl
    · rcases h2 with ⟨e1, e2, e3⟩ | ⟨e1, e2⟩
      · subst e1
        refine Ev.of_eq 1 fun K => ?_
        show stockaderef05_Reached.l0 (K + 1) _ _ _ = _
        rw [stockaderef05_Reached.l0, if_neg (by decide), hfin V' h1 e3]
      · subst e1
        exact ih V' (by omega) h1
theorem rreach_eq : Ev (fun K => stockaderef05_Reached.f K (allN C C.length)) (inR C) := by
  have hal := allN_len C C.length
  have hil := inR_len hC hl
  by_cases h0 : C.length = 0
  · refine Ev.of_eq 0 fun K => ?_
    show stockaderef05_Reached.f (K + 0) (allN C C.length) = _
    unfold stockaderef05_Reached.f
    rw [if_pos (by omega), if_pos (by omega), Option.bind_some, if_pos (by omega), hal, Int.toNat_natCast, h0]
    have : inR C = [] := List.length_eq_zero_iff.1 (by omega)
    rw [this]; rfl
  · have hat0 : ∀ i, at_ (List.replicate C.length false) i = false := fun i => by unfold at_; rw [List.getD_eq_getElem?_getD, List.getElem?_replicate]; split <;> rfl
    have hset : ∀ i, at_ ((List.replicate C.length false).set 0 true) i = if i = 0 then true else false := fun i => by rw [at_set (by rw [List.length_replicate]; omega), hat0]
    obtain ⟨K0, h1⟩ := rreach_l0 hC hl C.length ((List.replicate C.length false).set 0 true) (by omega) ⟨by simp, fun i hi => by
      rw [hset] at hi
      by_cases e : i = 0
      · rw [e]; exact Rch.zero
      · rw [if_neg e] at hi; exact absurd hi (by decide), by rw [hset, if_pos rfl]⟩
    refine ⟨K0, fun K hK => ?_⟩
    have e1 := h1 K hK
    dsimp only at e1 ⊢
    unfold stockaderef05_Reached.f
    rw [if_pos (by omega), if_pos (by omega), Option.bind_some, if_neg (by omega), if_pos (by rw [List.length_replicate]; omega), hal, Int.toNat_natCast]
    exact e1
end
end Go.Proofs.YtkjcjlegokdpdaaDoor.Pure
