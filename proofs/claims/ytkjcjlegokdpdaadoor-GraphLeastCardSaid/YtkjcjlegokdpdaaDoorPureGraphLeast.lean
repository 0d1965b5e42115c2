/- Chapter 05: each start stands as early as can be. -/
import Derived.Test.YtkjcjlegokdpdaaDoorGh
import Derived.Test.YtkjcjlegokdpdaaDoorPx28
namespace Go.Proofs.YtkjcjlegokdpdaaDoor.Pure
open Go.RowKit Go.Proofs.YtkjcjlegokdpdaaDoorW.PrintWords Go.Proofs.YtkjcjlegokdpdaaDoorW.PrintLast Go.Proofs.YtkjcjlegokdpdaaDoorW.PrintMore Go.Proofs.YtkjcjlegokdpdaaDoor.P Go.Proofs.YtkjcjlegokdpdaaDoor.Opening
set_option linter.unusedVariables false
set_option linter.unusedSimpArgs false

/-- With fuel enough it answers r. -/
def Ev {α : Type} (f : Nat → Option α) (r : α) : Prop := ∃ K0, ∀ K, K0 ≤ K → f K = some r
theorem Ev.step {α : Type} {f g : Nat → Option α} {r : α} (h : ∀ K, f (K + 1) = g K) (hg : Ev g r) : Ev f r := by
  obtain ⟨K0, hK⟩ := hg
  refine ⟨K0 + 1, fun K h1 => ?_⟩
  obtain ⟨K', rfl⟩ : ∃ K', K = K' + 1 := ⟨K - 1, by omega⟩
  rw [h]; exact hK K' (by omega)
theorem Ev.bind {α β : Type} {f : Nat → Option α} {g : Nat → α → Option β} {a : α} {b : β} (hf : Ev f a) (hg : Ev (fun K => g K a) b) : Ev (fun K => (f K).bind (g K)) b := by
  obtain ⟨K0, h0⟩ := hf
  obtain ⟨K1, h1⟩ := hg
  exact ⟨max K0 K1, fun K h => by
    have e := h0 K (by omega)
    show (f K).bind (g K) = some b
    rw [e]; exact h1 K (by omega)⟩
theorem Ev.pure {α : Type} {r : α} : Ev (fun _ => some r) r := ⟨0, fun _ _ => rfl⟩
/-- What is reached and not done. -/
def lfO (V D : List Bool) : List Bool := (List.range V.length).map fun i => at_ V i && !(at_ D i)
theorem lfO_len (V D : List Bool) : (lfO V D).length = V.length := by simp [lfO]
theorem lfO_at (V D : List Bool) (i : Nat) : at_ (lfO V D) i = (at_ V i && !(at_ D i)) := by
  by_cases h : i < V.length
  · unfold at_ lfO
    rw [List.getD_eq_getElem?_getD, List.getElem?_map, List.getElem?_range h]; rfl
  · rw [at_out (by rw [lfO_len]; omega), at_out (by omega)]; rfl
theorem lfO_set {V D : List Bool} {t : Nat} (hD : D.length = V.length) (ht : t < V.length) : lfO V (D.set t true) = (lfO V D).set t false := by
  refine at_ext (by rw [List.length_set, lfO_len, lfO_len]) fun i _ => ?_
  rw [lfO_at, at_set (by omega), at_set (by rw [lfO_len]; omega), lfO_at]
  by_cases e : i = t
  · rw [if_pos e, if_pos e, Bool.not_true, Bool.and_false]
  · rw [if_neg e, if_neg e]
theorem up_head {L : List Nat} {i : Nat} (hU : Up L) (hi : i ∈ L) (h : ∀ j, j < i → j ∉ L) : ∃ r, L = i :: r := by
  cases L with
  | nil => cases hi
  | cons a r =>
    rcases List.mem_cons.1 hi with e | h1
    · exact ⟨r, by rw [e]⟩
    · exact absurd List.mem_cons_self (h a ((List.pairwise_cons.1 hU).1 i h1))
/-- To what all places lead. -/
def allN (C : List S44) (i : Nat) : List (List Int) := (List.range i).map fun a => toI (nxt C a)
theorem allN_len (C : List S44) (i : Nat) : (allN C i).length = i := by simp [allN]
theorem allN_rd {C : List S44} {n a : Nat} (h : a < n) : rd_L8 (allN C n) (a : Int) = toI (nxt C a) := by
  unfold rd_L8 allN
  rw [Int.toNat_natCast, List.getD_eq_getElem?_getD, List.getElem?_map, List.getElem?_range h]; rfl
section
variable {C : List S44} {V D : List Bool} (hl : C.length ≤ 1000) (hV : V.length = C.length) (hD : D.length = C.length)
include hl hV hD
/-- The least one free, or -1. -/
def fstR (l : List Nat) : Int := match l with
  | [] => -1
  | t :: _ => (t : Int)
theorem free_l2 {H : List Bool} (hH : H.length = C.length) (hh : ∀ t, t < C.length → (at_ H t = true ↔ inD (nxt C) C.length (lfO V D) t ≠ 0)) : ∀ (m i : Nat), C.length - i ≤ m → i ≤ C.length → (∀ j, j < i → j ∉ zer (nxt C) C.length (lfO V D)) → Ev (fun K => stockadelaw05_free.l2 K (allN C C.length) V D H (i : Int)) (fstR (zer (nxt C) C.length (lfO V D))) := by
  intro m
  induction m with
  | zero =>
    intro i h1 h2 h3
    have hz : zer (nxt C) C.length (lfO V D) = [] := by
      rcases List.eq_nil_or_concat (zer (nxt C) C.length (lfO V D)) with e | ⟨_, x, e⟩
      · exact e
      · have hx : x ∈ zer (nxt C) C.length (lfO V D) := by rw [e]; simp
        exact absurd hx (h3 x (by have := (mem_zer.1 hx).1; omega))
    rw [hz]
    refine Ev.step (g := fun _ => some (-1)) (fun K => ?_) Ev.pure
    rw [stockadelaw05_free.l2, if_neg (by rw [allN_len]; omega)]
  | succ m ih =>
    intro i h1 h2 h3
    by_cases hi : i < C.length
    rotate_left
    · have hz : zer (nxt C) C.length (lfO V D) = [] := by
        rcases List.eq_nil_or_concat (zer (nxt C) C.length (lfO V D)) with e | ⟨_, x, e⟩
        · exact e
        · have hx : x ∈ zer (nxt C) C.length (lfO V D) := by rw [e]; simp
          exact absurd hx (h3 x (by have := (mem_zer.1 hx).1; omega))
      rw [hz]
      refine Ev.step (g := fun _ => some (-1)) (fun K => ?_) Ev.pure
      rw [stockadelaw05_free.l2, if_neg (by rw [allN_len]; omega)]
    have hw : wrap64 ((i : Int) + 1) = ((i + 1 : Nat) : Int) := by unfold wrap64; omega
    have hno : i ∉ zer (nxt C) C.length (lfO V D) → Ev (fun K => stockadelaw05_free.l2 K (allN C C.length) V D H ((i + 1 : Nat) : Int)) (fstR (zer (nxt C) C.length (lfO V D))) := fun hn =>
      ih (i + 1) (by omega) (by omega) fun j hj => by
        rcases Nat.lt_or_ge j i with h | h
        · exact h3 j h
        · have : j = i := by omega
          rw [this]; exact hn
    have hlf := lfO_at V D i
    by_cases cV : at_ V i = true
    rotate_left
    · refine Ev.step (fun K => ?_) (hno fun h => by have := (mem_zer.1 h).2.1; rw [hlf] at this; simp [cV] at this)
      rw [stockadelaw05_free.l2, if_pos (by rw [allN_len]; omega), if_pos (by omega), if_pos (by omega), rdOf_at, if_neg cV, hw]
    by_cases cD : at_ D i = true
    · refine Ev.step (fun K => ?_) (hno fun h => by have := (mem_zer.1 h).2.1; rw [hlf] at this; simp [cD] at this)
      rw [stockadelaw05_free.l2, if_pos (by rw [allN_len]; omega), if_pos (by omega), if_pos (by omega), rdOf_at, if_pos cV, if_pos (by omega), rdOf_at, if_pos cD, hw]
    by_cases cH : at_ H i = true
    · refine Ev.step (fun K => ?_) (hno fun h => (hh i hi).1 cH (mem_zer.1 h).2.2)
      rw [stockadelaw05_free.l2, if_pos (by rw [allN_len]; omega), if_pos (by omega), if_pos (by omega), rdOf_at, if_pos cV, if_pos (by omega), rdOf_at, if_neg cD, if_pos (by omega), rdOf_at, if_pos cH, hw]
    have hm : i ∈ zer (nxt C) C.length (lfO V D) := mem_zer.2 ⟨hi, by rw [hlf]; simp [cV, cD], Decidable.byContradiction fun h => cH ((hh i hi).2 h)⟩
    obtain ⟨r, hr⟩ := up_head (zer_up _) hm h3
    rw [hr]
    refine Ev.step (g := fun _ => some (i : Int)) (fun K => ?_) Ev.pure
    rw [stockadelaw05_free.l2, if_pos (by rw [allN_len]; omega), if_pos (by omega), if_pos (by omega), rdOf_at, if_pos cV, if_pos (by omega), rdOf_at, if_neg cD, if_pos (by omega), rdOf_at, if_neg cH]
theorem free_l1 {a : Nat} (ha : a < C.length) {r : Int} : ∀ (m j : Nat) (H : List Bool), (nxt C a).length - j ≤ m → j ≤ (nxt C a).length → H.length = C.length →
    (∀ H', H'.length = C.length → (∀ t, at_ H' t = (at_ H t || (at_ (lfO V D) a && decide (t ∈ (nxt C a).drop j)))) → Ev (fun K => stockadelaw05_free.l0 K (allN C C.length) V D H' ((a + 1 : Nat) : Int)) r) →
    Ev (fun K => stockadelaw05_free.l1 K (allN C C.length) V D H (a : Int) (j : Int)) r := by
  intro m
  have hw : wrap64 ((a : Int) + 1) = ((a + 1 : Nat) : Int) := by unfold wrap64; omega
  have hal := allN_len C C.length
  have hrd := allN_rd (C := C) ha
  have hlf := lfO_at V D a
  have hnl := nxt_len C a
  have hend : ∀ (j : Nat) (H : List Bool), ¬ j < (nxt C a).length → H.length = C.length →
    (∀ H', H'.length = C.length → (∀ t, at_ H' t = (at_ H t || (at_ (lfO V D) a && decide (t ∈ (nxt C a).drop j)))) → Ev (fun K => stockadelaw05_free.l0 K (allN C C.length) V D H' ((a + 1 : Nat) : Int)) r) →
    Ev (fun K => stockadelaw05_free.l1 K (allN C C.length) V D H (a : Int) (j : Int)) r := fun j H hj hH k => by
      refine Ev.step (fun K => ?_) (k H hH fun t => by rw [List.drop_eq_nil_of_le (by omega)]; simp)
      rw [stockadelaw05_free.l1, if_pos (by omega), if_pos (by omega), hrd, toI_len, if_neg (by omega), hw]
  induction m with
  | zero => exact fun j H h1 h2 hH k => hend j H (by omega) hH k
  | succ m ih =>
    intro j H h1 h2 hH k
    by_cases hj : j < (nxt C a).length
    rotate_left
    · exact hend j H hj hH k
    have o1 : (nxt C a).length - (j + 1) ≤ m := by omega
    have o2 : (j : Int) < ((nxt C a).length : Int) := by omega
    have o3 : (a : Int) < (V.length : Int) := by omega
    have o4 : (a : Int) < (D.length : Int) := by omega
    have o5 : (0 : Int) ≤ (a : Int) := by omega
    have o6 : (a : Int) < ((allN C C.length).length : Int) := by omega
    have o7 : (0 : Int) ≤ (j : Int) := by omega
    have hwj : wrap64 ((j : Int) + 1) = ((j + 1 : Nat) : Int) := by unfold wrap64; omega
    have hdrop : (nxt C a).drop j = (nxt C a)[j] :: (nxt C a).drop (j + 1) := List.drop_eq_getElem_cons hj
    have hrj : rd (toI (nxt C a)) (j : Int) = ((nxt C a)[j] : Int) := rd_toI hj
    have hbl : (nxt C a)[j] < C.length := nxt_lt (List.getElem_mem hj)
    generalize (nxt C a)[j] = b at hdrop hrj hbl
    by_cases cV : at_ V a = true
    rotate_left
    · refine Ev.step (fun K => ?_) (ih (j + 1) H o1 hj hH fun H' e1 e2 => k H' e1 fun t => by rw [e2]; simp [hlf, cV])
      rw [stockadelaw05_free.l1, if_pos o5, if_pos o6, hrd, toI_len, if_pos o2, if_pos o3, rdOf_at, if_neg cV, hwj]
    by_cases cD : at_ D a = true
    · refine Ev.step (fun K => ?_) (ih (j + 1) H o1 hj hH fun H' e1 e2 => k H' e1 fun t => by rw [e2]; simp [hlf, cD])
      rw [stockadelaw05_free.l1, if_pos o5, if_pos o6, hrd, toI_len, if_pos o2, if_pos o3, rdOf_at, if_pos cV, if_pos o4, rdOf_at, if_pos cD, hwj]
    · refine Ev.step (fun K => ?_) (ih (j + 1) (H.set b true) o1 hj (by rw [List.length_set]; exact hH) fun H' e1 e2 => k H' e1 fun t => by
        rw [e2, at_set (by rw [hH]; exact hbl), hdrop, hlf]
        simp only [cV, cD]
        by_cases e : t = b
        · simp [e]
        · simp [e])
      rw [stockadelaw05_free.l1, if_pos o5, if_pos o6, hrd, toI_len, if_pos o2, if_pos o3, rdOf_at, if_pos cV, if_pos o4, rdOf_at, if_neg cD, if_pos o7, hrj, if_pos (Int.natCast_nonneg b), if_pos (by rw [hH]; exact Int.ofNat_lt.2 hbl), hwj, Int.toNat_natCast]
theorem free_l0 : ∀ (m a : Nat) (H : List Bool), C.length - a ≤ m → a ≤ C.length → H.length = C.length → (∀ t, at_ H t = true ↔ ∃ b, b < a ∧ at_ (lfO V D) b = true ∧ t ∈ nxt C b) → Ev (fun K => stockadelaw05_free.l0 K (allN C C.length) V D H (a : Int)) (fstR (zer (nxt C) C.length (lfO V D))) := by
  have hal := allN_len C C.length
  have hend : ∀ (a : Nat) (H : List Bool), ¬ a < C.length → a ≤ C.length → H.length = C.length → (∀ t, at_ H t = true ↔ ∃ b, b < a ∧ at_ (lfO V D) b = true ∧ t ∈ nxt C b) → Ev (fun K => stockadelaw05_free.l0 K (allN C C.length) V D H (a : Int)) (fstR (zer (nxt C) C.length (lfO V D))) := fun a H ha h2 hH hh => by
    have e : a = C.length := by omega
    subst e
    refine Ev.step (fun K => ?_) (free_l2 hl hV hD hH (fun t ht => ?_) C.length 0 (by omega) (by omega) fun j hj => by omega)
    · rw [stockadelaw05_free.l0, if_neg (by omega)]; rfl
    · rw [hh t]
      constructor
      · rintro ⟨b, b1, b2, b3⟩ e
        exact (inD_zero t).1 e b b1 b2 b3
      · intro h
        refine Decidable.byContradiction fun hn => h ((inD_zero t).2 fun b b1 b2 b3 => hn ⟨b, b1, b2, b3⟩)
  intro m
  induction m with
  | zero => exact fun a H h1 h2 hH hh => hend a H (by omega) h2 hH hh
  | succ m ih =>
    intro a H h1 h2 hH hh
    by_cases ha : a < C.length
    rotate_left
    · exact hend a H ha h2 hH hh
    refine Ev.step (fun K => ?_) (free_l1 hl hV hD ha (nxt C a).length 0 H (by omega) (by omega) hH fun H' e1 e2 => ih (a + 1) H' (by omega) (by omega) e1 fun t => ?_)
    · rw [stockadelaw05_free.l0, if_pos (by omega)]; rfl
    · rw [e2, List.drop_zero, Bool.or_eq_true, hh t, Bool.and_eq_true, decide_eq_true_eq]
      constructor
      · rintro (⟨b, b1, b2, b3⟩ | ⟨b2, b3⟩)
        · exact ⟨b, by omega, b2, b3⟩
        · exact ⟨a, by omega, b2, b3⟩
      · rintro ⟨b, b1, b2, b3⟩
        rcases Nat.lt_or_ge b a with h | h
        · exact Or.inl ⟨b, h, b2, b3⟩
        · have : b = a := by omega
          subst this
          exact Or.inr ⟨b2, b3⟩
theorem free_eq : Ev (fun K => stockadelaw05_free.f K (allN C C.length) V D) (fstR (zer (nxt C) C.length (lfO V D))) := by
  have hal := allN_len C C.length
  obtain ⟨K0, h⟩ := free_l0 hl hV hD C.length 0 (List.replicate C.length false) (by omega) (by omega) (by simp) (fun t => by
    have : at_ (List.replicate C.length false) t = false := by unfold at_; rw [List.getD_eq_getElem?_getD, List.getElem?_replicate]; split <;> rfl
    rw [this]; simp)
  refine ⟨K0, fun K hK => ?_⟩
  show stockadelaw05_free.f K (allN C C.length) V D = _
  unfold stockadelaw05_free.f
  rw [if_pos (by omega), if_pos (by omega), hal, Int.toNat_natCast]
  exact h K hK
end
theorem ordS_nil {N : Nat → List Nat} {n : Nat} {l : List Bool} (h : zer N n l = []) : ∀ (m : Nat) (row : List Nat), ordS N n m l row = (row, l)
  | 0, row => rfl
  | m + 1, row => by rw [ordS, h]
theorem ordS_cons {N : Nat → List Nat} {n : Nat} {l : List Bool} {t : Nat} {r : List Nat} (h : zer N n l = t :: r) (m : Nat) (row : List Nat) : ordS N n (m + 1) l row = ordS N n m (l.set t false) (row ++ [t]) := by rw [ordS, h]
theorem ordS_pre {N : Nat → List Nat} {n : Nat} : ∀ (m : Nat) (l : List Bool) (row : List Nat), ∃ s, (ordS N n m l row).1 = row ++ s
  | 0, l, row => ⟨[], by simp [ordS]⟩
  | m + 1, l, row => by
    cases h : zer N n l with
    | nil => rw [ordS_nil h]; exact ⟨[], by simp⟩
    | cons t r =>
      rw [ordS_cons h]
      obtain ⟨s, e⟩ := ordS_pre (N := N) (n := n) m (l.set t false) (row ++ [t])
      exact ⟨t :: s, by rw [e]; simp⟩
theorem allN_succ (C : List S44) (i : Nat) : allN C (i + 1) = allN C i ++ [toI (nxt C i)] := by
  unfold allN
  rw [List.range_succ, List.map_append]; rfl
section
variable {C : List S44} {V : List Bool} (hl : C.length ≤ 1000) (hV : V.length = C.length)
include hl hV
theorem least_l2 {D : List Bool} (hD : D.length = C.length) {x4 : Int} (hx : ((x4 == 0) == (((cnt (lfO V D) : Nat) : Int) == 0)) = true) : ∀ (m i : Nat), C.length - i ≤ m → i ≤ C.length → Ev (fun K => stockadelaw05_GraphLeast.l2 K C x4 V D ((cntT (lfO V D) i : Nat) : Int) (i : Int)) true := by
  intro m
  have hll : (lfO V D).length = C.length := by rw [lfO_len]; exact hV
  have hend : ∀ i : Nat, ¬ i < C.length → i ≤ C.length → Ev (fun K => stockadelaw05_GraphLeast.l2 K C x4 V D ((cntT (lfO V D) i : Nat) : Int) (i : Int)) true := fun i h1 h2 => by
    have e : i = C.length := by omega
    refine ⟨41, fun K hK => ?_⟩
    obtain ⟨K', rfl⟩ : ∃ K', K = K' + 1 := ⟨K - 1, by omega⟩
    show stockadelaw05_GraphLeast.l2 (K' + 1) C x4 V D _ _ = _
    rw [stockadelaw05_GraphLeast.l2, if_neg (by omega), e, cntT_all hll, if_pos hx, wakes_ge (by omega)]; rfl
  induction m with
  | zero => exact fun i h1 h2 => hend i (by omega) h2
  | succ m ih =>
    intro i h1 h2
    by_cases hi : i < C.length
    rotate_left
    · exact hend i hi h2
    have hw : wrap64 ((i : Int) + 1) = ((i + 1 : Nat) : Int) := by unfold wrap64; omega
    have hs := cntT_succ (I := lfO V D) (j := i) (by omega)
    rw [rdOf_at, lfO_at] at hs
    have hle := cntT_le (lfO V D) i
    have o1 : (i : Int) < (C.length : Int) := by omega
    have o2 : (0 : Int) ≤ (i : Int) := by omega
    have o3 : (i : Int) < (V.length : Int) := by omega
    have o4 : (i : Int) < (D.length : Int) := by omega
    have hn := ih (i + 1) (by omega) (by omega)
    generalize cntT (lfO V D) i = c at hs hle ⊢
    generalize cntT (lfO V D) (i + 1) = c' at hs hn
    have hwc : wrap64 ((c : Int) + 1) = ((c + 1 : Nat) : Int) := by unfold wrap64; omega
    by_cases cV : at_ V i = true
    rotate_left
    · rw [if_neg (by simp [cV])] at hs
      subst hs
      refine Ev.step (fun K => ?_) hn
      rw [stockadelaw05_GraphLeast.l2, if_pos o1, if_pos o2, if_pos o3, rdOf_at, if_neg cV, hw]
    by_cases cD : at_ D i = true
    · rw [if_neg (by simp [cD])] at hs
      subst hs
      refine Ev.step (fun K => ?_) hn
      rw [stockadelaw05_GraphLeast.l2, if_pos o1, if_pos o2, if_pos o3, rdOf_at, if_pos cV, if_pos o4, rdOf_at, if_pos cD, hw]
    · rw [if_pos (by simp [cV, cD])] at hs
      subst hs
      refine Ev.step (fun K => ?_) hn
      rw [stockadelaw05_GraphLeast.l2, if_pos o1, if_pos o2, if_pos o3, rdOf_at, if_pos cV, if_pos o4, rdOf_at, if_neg cD, hw, hwc]
omit hl hV in
theorem wr1 {j : Nat} (h : j ≤ 1000) : wrap64 ((j : Int) + 1) = ((j + 1 : Nat) : Int) := by unfold wrap64; omega
omit hl hV in
theorem calc_p {n j m : Nat} (h : n - j ≤ m + 1) : n - (j + 1) ≤ m := by omega
omit hl hV in
theorem calc_q {a b j n : Nat} (h : a + 1 = b) (hc : j + b ≤ n) : j + 1 + a ≤ n := by omega
theorem least_l1 {x3 : List Int} {x4 : Int} (S : List Nat × List Bool) (hx : x4 = 0 ∧ cnt S.2 = 0 ∧ x3 = toI S.1 ∨ x4 = 28 ∧ cnt S.2 ≠ 0) : ∀ (m j : Nat) (D : List Bool) (rw' : List Nat), C.length - j ≤ m → rw'.length = j → D.length = C.length → ordS (nxt C) C.length (C.length - j) (lfO V D) rw' = S → j + cnt (lfO V D) ≤ C.length → Ev (fun K => stockadelaw05_GraphLeast.l1 K C x3 x4 V (allN C C.length) D (j : Int)) true := by
  intro m
  induction m with
  | zero =>
    intro j D rw' h1 hr hD hS hc
    have hcz : cnt (lfO V D) ≤ 0 := by omega
    have hz : zer (nxt C) C.length (lfO V D) = [] := ordS_end 0 _ rw' hcz
    have hf := free_eq hl hV hD
    rw [hz] at hf
    rw [ordS_nil hz] at hS
    obtain ⟨K0, h0⟩ := hf
    obtain ⟨K1, h2⟩ := least_l2 hl hV hD (x4 := x4) (by
      have e : S.2 = lfO V D := by rw [← hS]
      rcases hx with ⟨a, b, _⟩ | ⟨a, b⟩
      · rw [e] at b; rw [a, b]; rfl
      · rw [e] at b; omega) C.length 0 (by omega) (by omega)
    refine ⟨max K0 K1 + 2, fun K hK => ?_⟩
    obtain ⟨K', rfl⟩ : ∃ K', K = K' + 2 := ⟨K - 2, by omega⟩
    have e0 := h0 (K' + 1) (by omega)
    have e2 := h2 K' (by omega)
    show stockadelaw05_GraphLeast.l1 (K' + 1 + 1) C x3 x4 V (allN C C.length) D (j : Int) = some true
    rw [stockadelaw05_GraphLeast.l1, if_pos (by omega)]
    dsimp only at e0
    rw [e0, Option.bind_some, if_pos (by decide), stockadelaw05_GraphLeast.j3]
    exact e2
  | succ m ih =>
    intro j D rw' h1 hr hD hS hc
    have hf := free_eq hl hV hD
    cases hz : zer (nxt C) C.length (lfO V D) with
    | nil =>
      rw [hz] at hf
      rw [ordS_nil hz] at hS
      obtain ⟨K0, h0⟩ := hf
      obtain ⟨K1, h2⟩ := least_l2 hl hV hD (x4 := x4) (by
        have e : S.2 = lfO V D := by rw [← hS]
        rcases hx with ⟨a, b, _⟩ | ⟨a, b⟩
        · rw [e] at b; rw [a, b]; rfl
        · rw [e] at b
          rw [a]
          have : (((cnt (lfO V D) : Nat) : Int) == 0) = false := by simpa using b
          rw [this]; rfl) C.length 0 (by omega) (by omega)
      refine ⟨max K0 K1 + 2, fun K hK => ?_⟩
      obtain ⟨K', rfl⟩ : ∃ K', K = K' + 2 := ⟨K - 2, by omega⟩
      have e0 := h0 (K' + 1) (by omega)
      have e2 := h2 K' (by omega)
      show stockadelaw05_GraphLeast.l1 (K' + 1 + 1) C x3 x4 V (allN C C.length) D (j : Int) = some true
      rw [stockadelaw05_GraphLeast.l1, if_pos (by omega)]
      dsimp only at e0
      rw [e0, Option.bind_some, if_pos (by decide), stockadelaw05_GraphLeast.j3]
      exact e2
    | cons t rest =>
      rw [hz] at hf
      have ht : t ∈ zer (nxt C) C.length (lfO V D) := by rw [hz]; exact List.mem_cons_self
      obtain ⟨t1, t2, t3⟩ := mem_zer.1 ht
      have hcs := cnt_set t2
      have hjn : C.length - j = (C.length - (j + 1)) + 1 := by omega
      rw [hjn, ordS_cons hz] at hS
      have hlfs := lfO_set (V := V) (D := D) (t := t) (by omega) (by omega)
      rw [← hlfs] at hS hcs
      have hj9 : j ≤ 1000 := by omega
      obtain ⟨K0, h0⟩ := hf
      have q1 : C.length - (j + 1) ≤ m := calc_p h1
      have q2 : j + 1 + cnt (lfO V (D.set t true)) ≤ C.length := calc_q hcs hc
      obtain ⟨K1, h2⟩ := ih (j + 1) (D.set t true) (rw' ++ [t]) q1 (by rw [List.length_append, hr]; rfl) (by rw [List.length_set]; exact hD) hS q2
      obtain ⟨s, hs⟩ := ordS_pre (N := nxt C) (n := C.length) (C.length - (j + 1)) (lfO V (D.set t true)) (rw' ++ [t])
      rw [hS] at hs
      refine ⟨max K0 K1 + 1, fun K hK => ?_⟩
      obtain ⟨K', rfl⟩ : ∃ K', K = K' + 1 := ⟨K - 1, by omega⟩
      have e0 := h0 K' (by omega)
      have e2 := h2 K' (by omega)
      have o1 : ¬ ((t : Int) < 0) := by omega
      have o2 : (0 : Int) ≤ (t : Int) := by omega
      have o3 : (t : Int) < (D.length : Int) := by omega
      show stockadelaw05_GraphLeast.l1 (K' + 1) C x3 x4 V (allN C C.length) D (j : Int) = some true
      rw [stockadelaw05_GraphLeast.l1, if_pos (by omega)]
      dsimp only [fstR] at e0 e2
      rw [e0, Option.bind_some, if_neg o1]
      rcases hx with ⟨a, b, hx3⟩ | ⟨a, b⟩
      · have hlen : j < S.1.length := by rw [hs, List.length_append, List.length_append, hr]; simp; omega
        have hrd : rd x3 (j : Int) = (t : Int) := by
          rw [hx3, rd_toI hlen]
          congr 1
          simp only [hs, List.append_assoc]
          rw [List.getElem_append_right (by omega)]
          simp [hr]
        have hl3 : x3.length = S.1.length := by rw [hx3, toI_len]
        rw [if_pos a, if_neg (by omega), if_pos (by omega), if_pos (by omega), hrd, if_pos rfl, if_pos o2, if_pos o3, wr1 hj9, Int.toNat_natCast]
        exact e2
      · rw [if_neg (by omega), if_pos o2, if_pos o3, wr1 hj9, Int.toNat_natCast]
        exact e2
theorem least_l0 (hC : ∀ z ∈ C, ok44 z) {x3 : List Int} {x4 : Int} (S : List Nat × List Bool) (hx : x4 = 0 ∧ cnt S.2 = 0 ∧ x3 = toI S.1 ∨ x4 = 28 ∧ cnt S.2 ≠ 0) (hS : ordS (nxt C) C.length C.length V [] = S) : ∀ (m i : Nat), C.length - i ≤ m → i ≤ C.length → Ev (fun K => stockadelaw05_GraphLeast.l0 K C x3 x4 V (allN C i) (i : Int)) true := by
  intro m
  have hend : ∀ i : Nat, ¬ i < C.length → i ≤ C.length → Ev (fun K => stockadelaw05_GraphLeast.l0 K C x3 x4 V (allN C i) (i : Int)) true := fun i h1 h2 => by
    have e : i = C.length := by omega
    subst e
    have hlf : lfO V (List.replicate C.length false) = V := at_ext (lfO_len _ _) fun i _ => by
      have : at_ (List.replicate C.length false) i = false := by unfold at_; rw [List.getD_eq_getElem?_getD, List.getElem?_replicate]; split <;> rfl
      rw [lfO_at, this]; simp
    have hcl := cnt_le V
    refine Ev.step (fun K => ?_) (least_l1 hl hV S hx C.length 0 (List.replicate C.length false) [] (by omega) rfl (by simp) (by rw [hlf]; exact hS) (by rw [hlf]; omega))
    rw [stockadelaw05_GraphLeast.l0, if_neg (by omega), if_pos (by omega), if_pos (by omega), Int.toNat_natCast]; rfl
  induction m with
  | zero => exact fun i h1 h2 => hend i (by omega) h2
  | succ m ih =>
    intro i h1 h2
    by_cases hi : i < C.length
    rotate_left
    · exact hend i hi h2
    obtain ⟨K1, h3⟩ := ih (i + 1) (by omega) (by omega)
    have hw : wrap64 ((i : Int) + 1) = ((i + 1 : Nat) : Int) := by unfold wrap64; omega
    have hal := allN_len C i
    refine ⟨K1 + C.length + 6, fun K hK => ?_⟩
    obtain ⟨k, rfl⟩ : ∃ k, K = C.length + 5 + k + 1 := ⟨K - (C.length + 6), by omega⟩
    have e3 := h3 (C.length + 5 + k) (by omega)
    have hnx : nxI C (i : Int) = toI (nxt C i) := by unfold nxI; rw [if_neg (by omega), Int.toNat_natCast]
    show stockadelaw05_GraphLeast.l0 (C.length + 5 + k + 1) C x3 x4 V (allN C i) (i : Int) = some true
    rw [stockadelaw05_GraphLeast.l0, if_pos (by omega), Next_eq hC (by omega), Option.bind_some, if_pos (by omega), hnx, ← allN_succ, hw]
    exact e3
end
theorem GraphLeast (l0 : List P.S44) (y0 : l0.length * 12 ≤ 140737488351232) (hw0 : ∀ z ∈ l0, Opening.ok44 z) : ∃ k, P.stockadelaw05_GraphLeast.f k l0 = some true := by
  by_cases c : (l0.length : Int) > 130
  · refine ⟨40, ?_⟩
    unfold stockadelaw05_GraphLeast.f
    rw [if_pos c, wakes_eq]; rfl
  · have hl : l0.length ≤ 1000 := by omega
    have hV := inR_len hw0 hl
    have hmain : ∀ x3 x4, ordR l0 = (x3, x4) → Ev (fun K => stockadelaw05_GraphLeast.l0 K l0 x3 x4 (inR l0) [] 0) true := fun x3 x4 e => by
      refine least_l0 hl hV hw0 (ordS (nxt l0) l0.length l0.length (inR l0) []) ?_ rfl l0.length 0 (by omega) (by omega)
      unfold ordR at e
      by_cases h : cnt (ordS (nxt l0) l0.length l0.length (inR l0) []).2 = 0
      · rw [if_pos h] at e
        injection e with e1 e2
        exact Or.inl ⟨e2.symm, h, e1.symm⟩
      · rw [if_neg h] at e
        injection e with e1 e2
        exact Or.inr ⟨e2.symm, h⟩
    have hb : (ordR l0).2 = 0 ∨ (ordR l0).2 = 28 ∧ (ordR l0).1 = [] := by
      unfold ordR
      split
      · exact Or.inl rfl
      · exact Or.inr ⟨rfl, rfl⟩
    obtain ⟨K0, h0⟩ := hmain (ordR l0).1 (ordR l0).2 rfl
    refine ⟨l0.length + 5 + (K0 + 1), ?_⟩
    unfold stockadelaw05_GraphLeast.f
    rw [if_neg c, Order_eq hw0 hl, Option.bind_some, Reached_eq hw0 hl, Option.bind_some, if_pos (by omega)]
    have hj : stockadelaw05_GraphLeast.j0 (l0.length + 5 + (K0 + 1)) l0 (ordR l0).1 (ordR l0).2 (inR l0) false = some true := by
      rw [show l0.length + 5 + (K0 + 1) = (l0.length + 5 + K0) + 1 by omega, stockadelaw05_GraphLeast.j0, if_neg (by decide)]
      exact h0 (l0.length + 5 + K0) (by omega)
    rcases hb with h | ⟨h, h'⟩
    · rw [if_pos h]; exact hj
    · rw [if_neg (by omega), if_pos h]
      rw [show decide (((ordR l0).1.length : Int) > 0) = false by rw [h']; rfl]
      exact hj
end Go.Proofs.YtkjcjlegokdpdaaDoor.Pure
