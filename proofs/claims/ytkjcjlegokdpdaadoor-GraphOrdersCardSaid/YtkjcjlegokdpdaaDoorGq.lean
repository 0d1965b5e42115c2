/- Chapter 05: what the program's Order comes to. -/
import Derived.Test.YtkjcjlegokdpdaaDoorGp
import Derived.Test.YtkjcjlegokdpdaaDoorOr
import Derived.Test.YtkjcjlegokdpdaaDoorPx24
import Derived.Test.YtkjcjlegokdpdaaDoorPxXXOr
namespace Go.Proofs.YtkjcjlegokdpdaaDoor.Pure
open Go.RowKit Go.Proofs.YtkjcjlegokdpdaaDoorW.PrintWords Go.Proofs.YtkjcjlegokdpdaaDoorW.PrintLast Go.Proofs.YtkjcjlegokdpdaaDoorW.PrintMore Go.Proofs.YtkjcjlegokdpdaaDoor.P Go.Proofs.YtkjcjlegokdpdaaDoor.Opening
set_option linter.unusedVariables false
set_option linter.unusedSimpArgs false

theorem less_eq (a b : Int) : cmp_Less_int.f a b = some (decide (a < b)) := by
  unfold cmp_Less_int.f cmp_isNaN_int.f
  simp
theorem half {i j : Nat} (h : i + j ≤ 4000000) : wrap64 ((IntKind.u64.wrap (wrap64 ((i : Int) + (j : Int)))) / 2) = (((i + j) / 2 : Nat) : Int) := by
  have h1 : wrap64 ((i : Int) + (j : Int)) = ((i + j : Nat) : Int) := by unfold wrap64; omega
  have h2 : IntKind.u64.wrap ((i + j : Nat) : Int) = ((i + j : Nat) : Int) := by
    unfold IntKind.wrap
    simp [IntKind.bits, IntKind.signed]
    omega
  rw [h1, h2]
  unfold wrap64; omega
theorem bs_l0 (L : List Nat) (b : Nat) (hl : L.length ≤ 1000000) (hU : Up L) : ∀ (K i j : Nat), j - i < K → i ≤ j → j ≤ L.length → (∀ x (h : x < L.length), x < i → L[x] < b) → (∀ x (h : x < L.length), j ≤ x → b ≤ L[x]) →
    ∃ (p : Nat) (f : Bool), slices_BinarySearch_int_int.l0 K (toI L) (b : Int) (L.length : Int) (i : Int) (j : Int) = some ((p : Int), f) ∧ p ≤ L.length ∧ (∀ x (h : x < L.length), x < p → L[x] < b) ∧ (∀ x (h : x < L.length), p ≤ x → b ≤ L[x])
  | 0, i, j, h, _, _, _, _ => by omega
  | K + 1, i, j, h, hij, hj, h1, h2 => by
    have hup := List.pairwise_iff_getElem.1 hU
    rw [slices_BinarySearch_int_int.l0]
    by_cases c : i < j
    · rw [if_pos (by omega), half (by omega), if_pos (by omega), toI_len, if_pos (by omega), less_eq, Option.bind_some, rd_toI (by omega)]
      by_cases c2 : L[(i + j) / 2] < b
      · rw [if_pos (by simpa using c2), show wrap64 ((((i + j) / 2 : Nat) : Int) + 1) = (((i + j) / 2 + 1 : Nat) : Int) by unfold wrap64; omega]
        refine bs_l0 L b hl hU K _ j (by omega) (by omega) hj (fun x hx hlt => ?_) h2
        rcases Nat.lt_or_ge x ((i + j) / 2) with c3 | c3
        · exact Nat.lt_trans (hup x _ hx (by omega) c3) c2
        · have : x = (i + j) / 2 := by omega
          subst this; exact c2
      · rw [if_neg (by simpa using c2)]
        refine bs_l0 L b hl hU K i _ (by omega) (by omega) (by omega) h1 (fun x hx hge => ?_)
        rcases Nat.lt_or_ge ((i + j) / 2) x with c3 | c3
        · have := hup _ x (by omega) hx c3; omega
        · have : x = (i + j) / 2 := by omega
          subst this; omega
    · rw [if_neg (by omega)]
      have e : i = j := by omega
      subst e
      by_cases c3 : i < L.length
      · rw [if_pos (by omega), if_pos (by omega), toI_len, if_pos (by omega)]
        by_cases c4 : rd (toI L) (i : Int) = (b : Int)
        · rw [if_pos c4]; exact ⟨i, true, rfl, by omega, h1, h2⟩
        · rw [if_neg c4]
          refine ⟨i, false, ?_, by omega, h1, h2⟩
          unfold slices_isNaN_int.f
          simp
      · rw [if_neg (by omega)]
        exact ⟨i, false, rfl, by omega, h1, h2⟩
theorem toI_ins (L : List Nat) (p b : Nat) : insAt (toI L) p (b : Int) = toI (L.take p ++ b :: L.drop p) := by
  unfold insAt toI
  rw [List.map_append, List.map_cons, List.map_take, List.map_drop]
theorem up_ins {L : List Nat} {p b : Nat} (hL : Up L) (h1 : ∀ x ∈ L.take p, x < b) (h2 : ∀ x ∈ L.drop p, b < x) : Up (L.take p ++ b :: L.drop p) := by
  refine List.pairwise_append.2 ⟨List.Pairwise.sublist (List.take_sublist _ _) hL, List.pairwise_cons.2 ⟨h2, List.Pairwise.sublist (List.drop_sublist _ _) hL⟩, fun x hx y hy => ?_⟩
  rcases List.mem_cons.1 hy with e | h
  · rw [e]; exact h1 x hx
  · exact Nat.lt_trans (h1 x hx) (h2 y h)
theorem up_len {L : List Nat} {n : Nat} (hL : Up L) (h : ∀ x ∈ L, x < n) : L.length ≤ n := by
  have : L = (List.range n).filter fun x => decide (x ∈ L) := up_ext hL (up_range _ _) fun x => by
    rw [List.mem_filter, List.mem_range]
    exact ⟨fun hx => ⟨h x hx, by simpa using hx⟩, fun hx => by simpa using hx.2⟩
  rw [this]
  exact Nat.le_trans (List.length_filter_le _ _) (by rw [List.length_range]; exact Nat.le_refl _)
/-- Where a number goes into a row. -/
theorem search_ins {L : List Nat} {b k : Nat} (hl : L.length ≤ 1000000) (hU : Up L) (hb : b ∉ L) (hk : L.length < k) : ∃ (p : Nat) (f : Bool), slices_BinarySearch_int_int.f k (toI L) (b : Int) = some ((p : Int), f) ∧ p ≤ L.length ∧ Up (L.take p ++ b :: L.drop p) ∧ (L.take p ++ b :: L.drop p).length = L.length + 1 ∧ ∀ x, x ∈ L.take p ++ b :: L.drop p ↔ x = b ∨ x ∈ L := by
  obtain ⟨p, f, h1, h2, h3, h4⟩ := bs_l0 L b hl hU k 0 L.length (by omega) (by omega) (by omega) (fun x hx h => by omega) (fun x hx h => by omega)
  refine ⟨p, f, ?_, h2, up_ins hU (fun x hx => ?_) (fun x hx => ?_), ?_, fun x => ?_⟩
  · unfold slices_BinarySearch_int_int.f
    rw [toI_len]; exact h1
  · obtain ⟨i, hi, e⟩ := List.mem_iff_getElem.1 hx
    rw [List.getElem_take] at e
    rw [List.length_take] at hi
    rw [← e]; exact h3 i (by omega) (by omega)
  · obtain ⟨i, hi, e⟩ := List.mem_iff_getElem.1 hx
    rw [List.getElem_drop] at e
    rw [List.length_drop] at hi
    have := h4 (p + i) (by omega) (by omega)
    rw [e] at this
    have hxL : x ∈ L := List.mem_of_mem_drop hx
    have : x ≠ b := fun e => hb (e ▸ hxL)
    omega
  · simp; omega
  · rw [List.mem_append, List.mem_cons]
    constructor
    · rintro (h | h | h)
      · exact Or.inr (List.mem_of_mem_take h)
      · exact Or.inl h
      · exact Or.inr (List.mem_of_mem_drop h)
    · rintro (h | h)
      · exact Or.inr (Or.inl h)
      · rw [← List.take_append_drop p L] at h
        rcases List.mem_append.1 h with h | h
        · exact Or.inl h
        · exact Or.inr (Or.inr h)
theorem oin_eq {n : Nat} (hn : n ≤ 1000) (k : Nat) (hk : n < k) : ∀ (M : List Nat) (F : List Int) (L : List Nat), (∀ b ∈ M, b < n) → M.Nodup → F.length = n → Up L → (∀ x ∈ L, x < n) → (∀ b ∈ M, b ∉ L) → (∀ b ∈ M, 1 ≤ rd F (b : Int) ∧ rd F (b : Int) ≤ 100000) →
    ∃ F' L', oinK k (toI M) F (toI L) = some (F', toI L') ∧ F'.length = n ∧ Up L' ∧ (∀ t, t < n → rd F' (t : Int) = rd F (t : Int) - if t ∈ M then 1 else 0) ∧ ∀ x, x ∈ L' ↔ x ∈ L ∨ (x ∈ M ∧ rd F (x : Int) = 1)
  | [], F, L, hM, hd, hF, hU, hL, hML, hB => ⟨F, L, by simp [oinK, toI], hF, hU, fun t _ => by simp, fun x => by simp⟩
  | m :: M, F, L, hM, hd, hF, hU, hL, hML, hB => by
    have hm := hM m List.mem_cons_self
    obtain ⟨hnd, hd'⟩ := List.nodup_cons.1 hd
    obtain ⟨b1, b2⟩ := hB m List.mem_cons_self
    have hw : wrap64 (rd F (m : Int) - 1) = rd F (m : Int) - 1 := by unfold wrap64; omega
    have hLn := up_len hU hL
    have hne : ∀ b ∈ M, b ≠ m := fun b hb e => hnd (e ▸ hb)
    have hB1 : ∀ b ∈ M, 1 ≤ rd (F.set m (rd F (m : Int) - 1)) (b : Int) ∧ rd (F.set m (rd F (m : Int) - 1)) (b : Int) ≤ 100000 := fun b hb => by
      rw [rd_set (by omega), if_neg (hne b hb)]; exact hB b (List.mem_cons_of_mem _ hb)
    have hF1 : ∀ t : Nat, rd (F.set m (rd F (m : Int) - 1)) (t : Int) = rd F (t : Int) - if t = m then 1 else 0 := fun t => by
      rw [rd_set (by omega)]
      by_cases e : t = m
      · rw [if_pos e, if_pos e, e]
      · rw [if_neg e, if_neg e]; omega
    have fin : ∀ L1 : List Nat, Up L1 → (∀ x ∈ L1, x < n) → (∀ b ∈ M, b ∉ L1) → (∀ x, x ∈ L1 ↔ x ∈ L ∨ (x = m ∧ rd F (m : Int) = 1)) → ∃ F' L', oinK k (toI M) (F.set m (rd F (m : Int) - 1)) (toI L1) = some (F', toI L') ∧ F'.length = n ∧ Up L' ∧ (∀ t, t < n → rd F' (t : Int) = rd F (t : Int) - if t ∈ m :: M then 1 else 0) ∧ ∀ x, x ∈ L' ↔ x ∈ L ∨ (x ∈ m :: M ∧ rd F (x : Int) = 1) := by
      intro L1 u1 u2 u3 u4
      obtain ⟨F', L', h1, h2, h3, h4, h5⟩ := oin_eq hn k hk M (F.set m (rd F (m : Int) - 1)) L1 (fun b hb => hM b (List.mem_cons_of_mem _ hb)) hd' (by rw [List.length_set]; exact hF) u1 u2 u3 hB1
      refine ⟨F', L', h1, h2, h3, fun t ht => ?_, fun x => ?_⟩
      · rw [h4 t ht, hF1]
        by_cases e : t = m
        · subst e; simp [hnd]
        · simp [e]
      · rw [h5, u4, hF1]
        by_cases e : x = m
        · subst e; simp [hnd]
        · simp [e]
    have hlen := toI_len L
    show ∃ F' L', oinK k ((m : Int) :: toI M) F (toI L) = some (F', toI L') ∧ _
    rw [oinK, if_pos (by omega), hw]
    by_cases c : rd F (m : Int) - 1 = 0
    · rw [if_pos c]
      obtain ⟨p, f, h1, h2, h3, h4, h5⟩ := search_ins (L := L) (b := m) (k := k) (by omega) hU (hML m List.mem_cons_self) (by omega)
      rw [h1, Option.bind_some]
      dsimp only
      rw [if_pos (by omega), Int.toNat_natCast, Int.toNat_natCast, toI_ins]
      refine fin _ h3 (fun x hx => ?_) (fun b hb hx => ?_) (fun x => ?_)
      · rcases (h5 x).1 hx with e | h
        · rw [e]; exact hm
        · exact hL x h
      · rcases (h5 b).1 hx with e | h
        · exact hne b hb e
        · exact hML b (List.mem_cons_of_mem _ hb) h
      · rw [h5]
        constructor
        · rintro (h | h)
          · exact Or.inr ⟨h, by omega⟩
          · exact Or.inl h
        · rintro (h | h)
          · exact Or.inr h
          · exact Or.inl h.1
    · rw [if_neg c, Int.toNat_natCast]
      refine fin L hU hL (fun b hb => hML b (List.mem_cons_of_mem _ hb)) (fun x => ⟨Or.inl, ?_⟩)
      rintro (h | h)
      · exact h
      · omega
section
variable {C : List S44} (hC : ∀ z ∈ C, ok44 z) (hl : C.length ≤ 1000)
include hC hl in
theorem ord_eq (k : Nat) (hk : C.length < k + 4) : ∀ (q m : Nat) (lf : List Bool) (F : List Int) (row : List Nat), cnt lf ≤ q → q < m → lf.length = C.length → F.length = C.length → (∀ a, at_ lf a = true → ∀ b ∈ nxt C a, at_ lf b = true) → (∀ t, t < C.length → rd F (t : Int) = (inD (nxt C) C.length lf t : Int)) → row.length + cnt lf ≤ C.length →
    ordK (k + 4) C (stC C) m F (toI (zer (nxt C) C.length lf)) (toI row) = some (toI (ordS (nxt C) C.length q lf row).1)
  | q, 0, lf, F, row, h0, h1, _, _, _, _, _ => by omega
  | 0, m + 1, lf, F, row, h0, h1, hlf, hF, hJ, hr, hrow => by
    have hz : zer (nxt C) C.length lf = [] := ordS_end 0 lf row h0
    rw [hz, ordK, if_pos (by rfl)]; rfl
  | q + 1, m + 1, lf, F, row, h0, h1, hlf, hF, hJ, hr, hrow => by
    rw [ordS]
    cases hz : zer (nxt C) C.length lf with
    | nil => rw [ordK, if_pos (by rfl)]
    | cons t rest =>
      have ht : t ∈ zer (nxt C) C.length lf := by rw [hz]; exact List.mem_cons_self
      obtain ⟨t1, t2, t3⟩ := mem_zer.1 ht
      have hup : Up (t :: rest) := by rw [← hz]; exact zer_up _
      obtain ⟨hlt, hup2⟩ := List.pairwise_cons.1 hup
      have hrest : ∀ x ∈ rest, x ∈ zer (nxt C) C.length lf := fun x hx => by rw [hz]; exact List.mem_cons_of_mem _ hx
      have hRl : (t :: rest).length ≤ C.length := up_len hup fun x hx => (mem_zer.1 (by rw [hz]; exact hx)).1
      have hRl' := toI_len (t :: rest)
      have hrl := toI_len row
      have hcl := cnt_set t2
      have h00 : rd (toI (t :: rest)) 0 = (t : Int) := rd_toI (l := t :: rest) (i := 0) (by simp)
      have hdr : (toI (t :: rest)).drop 1 = toI rest := rfl
      have hin : ∀ b ∈ nxt C t, 1 ≤ inD (nxt C) C.length lf b := fun b hb => by
        rcases Nat.eq_zero_or_pos (inD (nxt C) C.length lf b) with e | e
        · exact absurd hb ((inD_zero b).1 e t t1 t2)
        · exact e
      obtain ⟨F', L', g1, g2, g3, g4, g5⟩ := oin_eq hl (k + 4) hk (nxt C t) F rest (fun b hb => nxt_lt hb) (up_nodup (nxt_up C t)) hF hup2 (fun x hx => (mem_zer.1 (hrest x hx)).1)
        (fun b hb hx => by have h2 := (mem_zer.1 (hrest b hx)).2.2; have := hin b hb; omega)
        (fun b hb => by have h2 := hin b hb; have h3 := inD_le (nxt C) C.length lf b; rw [hr b (nxt_lt hb)]; omega)
      have hL' : L' = zer (nxt C) C.length (lf.set t false) := up_ext g3 (zer_up _) fun x => by
        rw [g5, mem_zer]
        have hs : at_ (lf.set t false) x = if x = t then false else at_ lf x := at_set (by omega)
        have hi := inD_set (N := nxt C) (n := C.length) (l := lf) (a := t) (t := x) hlf t2
        constructor
        · rintro (h | ⟨h, e⟩)
          · obtain ⟨x1, x2, x3⟩ := mem_zer.1 (hrest x h)
            have : x ≠ t := fun e => by have := hlt x h; omega
            exact ⟨x1, by rw [hs, if_neg this]; exact x2, by omega⟩
          · have hx : x < C.length := nxt_lt h
            rw [hr x hx] at e
            have : x ≠ t := fun e' => by rw [e'] at e; omega
            rw [if_pos h] at hi
            exact ⟨hx, by rw [hs, if_neg this]; exact hJ t t2 x h, by omega⟩
        · rintro ⟨x1, x2, x3⟩
          have hxt : x ≠ t := fun e => by rw [hs, if_pos e] at x2; exact absurd x2 (by decide)
          rw [hs, if_neg hxt] at x2
          by_cases c : x ∈ nxt C t
          · rw [if_pos c] at hi
            exact Or.inr ⟨c, by rw [hr x x1]; omega⟩
          · rw [if_neg c] at hi
            have : x ∈ zer (nxt C) C.length lf := mem_zer.2 ⟨x1, x2, by omega⟩
            rw [hz] at this
            rcases List.mem_cons.1 this with e | h
            · exact absurd e hxt
            · exact Or.inl h
      have htn : toI (t :: rest) ≠ [] := by unfold toI; simp
      rw [ordK, if_neg htn, if_pos (by omega), h00, nextK_eq hC (by omega), Option.bind_some, hdr, g1, Option.bind_some]
      dsimp only
      rw [hL', show toI row ++ [(t : Int)] = toI (row ++ [t]) by rw [toI_append]; rfl]
      refine ord_eq k hk q m (lf.set t false) F' (row ++ [t]) (by omega) (by omega) (by rw [List.length_set]; exact hlf) g2 (fun a ha b hb => ?_) (fun x hx => ?_) (by rw [List.length_append]; simp; omega)
      · rw [at_set (by omega)] at ha ⊢
        by_cases e : a = t
        · rw [if_pos e] at ha; exact absurd ha (by decide)
        · rw [if_neg e] at ha
          have : b ≠ t := fun e' => (inD_zero t).1 t3 a (by have := at_lt ha; omega) ha (e' ▸ hb)
          rw [if_neg this]
          exact hJ a ha b hb
      · have hi := inD_set (N := nxt C) (n := C.length) (l := lf) (a := t) (t := x) hlf t2
        rw [g4 x hx, hr x hx, ← hi]
        split <;> simp
/-- What is reached. -/
def inR (C : List S44) : List Bool := match graph_reached.f C (stC C) with
  | some p => p.1
  | none => []
include hC hl in
theorem inR_eq : ∃ F, graph_reached.f C (stC C) = some (inR C, F) ∧ (inR C).length = C.length ∧ F.length = C.length ∧ (∀ i, i < C.length → (at_ (inR C) i = true ↔ Rch (nxt C) i)) ∧ ∀ t, t < C.length → rd F (t : Int) = (inD (nxt C) C.length (inR C) t : Int) := by
  obtain ⟨V, F, h1, h2, h3, h4, h5⟩ := reachedK_eq hC hl 36 (C.length + 2) (by omega)
  have e : graph_reached.f C (stC C) = some (V, F) := h1
  have ev : inR C = V := by unfold inR; rw [e]
  rw [ev]
  exact ⟨F, e, h2, h3, h4, h5⟩
include hC hl in
theorem inR_len : (inR C).length = C.length := by obtain ⟨F, _, h, _⟩ := inR_eq hC hl; exact h
include hC hl in
theorem inR_iff {i : Nat} : at_ (inR C) i = true ↔ i < C.length ∧ Rch (nxt C) i := by
  obtain ⟨F, _, h, _, h2, _⟩ := inR_eq hC hl
  constructor
  · intro h3
    have h4 := at_lt h3
    exact ⟨by omega, (h2 i (by omega)).1 h3⟩
  · intro h3; exact (h2 i h3.1).2 h3.2
/-- The order, or that there is none. -/
def ordR (C : List S44) : List Int × Int := if cnt (ordS (nxt C) C.length C.length (inR C) []).2 = 0 then (toI (ordS (nxt C) C.length C.length (inR C) []).1, 0) else ([], 28)
theorem cntT_all {V : List Bool} {n : Nat} (h : V.length = n) : cntT V n = cnt V := by
  unfold cntT cnt
  rw [List.take_of_length_le (by omega)]
theorem Rch.from {N : Nat → List Nat} {t : Nat} (h : Rch N t) : t = 0 ∨ ∃ a, Rch N a ∧ t ∈ N a :=
  (h (fun i => Rch N i ∧ (i = 0 ∨ ∃ a, Rch N a ∧ i ∈ N a)) ⟨Rch.zero, Or.inl rfl⟩ (fun a b ha hb => ⟨ha.1.step hb, Or.inr ⟨a, ha.1, hb⟩⟩)).2
include hC hl in
theorem Order_eq : graph_Order.f C = some (ordR C) := by
  unfold graph_Order.f orderK
  rw [show C.length + 100 = C.length + 5 + 95 by omega, starts_eq hC (by omega), Option.bind_some]
  obtain ⟨V, F, h1, h2, h3, h4, h5⟩ := reachedK_eq hC hl (C.length + 96) (C.length + 2) (by omega)
  rw [show C.length + 5 + 95 = C.length + 96 + 4 by omega, h1, Option.bind_some]
  dsimp only
  have hV : V = inR C := by
    have hlen := inR_len hC hl
    refine at_ext (by omega) fun i hi => ?_
    have e1 := h4 i (by omega)
    have e2 := inR_iff hC hl (i := i)
    have : at_ V i = true ↔ at_ (inR C) i = true := by
      rw [e1, e2]
      exact ⟨fun h => ⟨by omega, h⟩, fun h => h.2⟩
    cases a : at_ V i <;> cases b : at_ (inR C) i <;> simp [a, b] at this ⊢
  subst hV
  rw [if_pos ⟨h2, h3, by omega⟩]
  have hct := cntT_all h2
  have hR : (if cntT (inR C) C.length > 0 ∧ rd F 0 = 0 then [0] else ([] : List Int)) = toI (zer (nxt C) C.length (inR C)) := by
    rw [hct]
    have hsub : ∀ t ∈ zer (nxt C) C.length (inR C), t = 0 := fun t ht => by
      obtain ⟨t1, t2, t3⟩ := mem_zer.1 ht
      rcases Rch.from ((h4 t t1).1 t2) with e | ⟨a, ha, hb⟩
      · exact e
      · have han := (mem_nxt.1 hb).1
        exact absurd hb ((inD_zero t).1 t3 a han ((h4 a han).2 ha))
    by_cases c0 : C.length = 0
    · rw [if_neg (fun h => by have := cnt_le (inR C); omega)]
      have : zer (nxt C) C.length (inR C) = [] := by unfold zer; rw [c0]; rfl
      rw [this]; rfl
    · have hv0 := (h4 0 (by omega)).2 Rch.zero
      have hc := cnt_set hv0
      have hF0 := h5 0 (by omega)
      have hF0' : rd F 0 = (inD (nxt C) C.length (inR C) 0 : Int) := hF0
      by_cases c1 : inD (nxt C) C.length (inR C) 0 = 0
      · rw [if_pos ⟨by omega, by omega⟩]
        have : zer (nxt C) C.length (inR C) = [0] := up_ext (zer_up _) (List.pairwise_singleton _ _) fun x => by
          constructor
          · intro h; rw [hsub x h]; simp
          · intro h
            have : x = 0 := by simpa using h
            subst this
            exact mem_zer.2 ⟨by omega, hv0, c1⟩
        rw [this]; rfl
      · rw [if_neg (fun h => by omega)]
        have : zer (nxt C) C.length (inR C) = [] := by
          rcases List.eq_nil_or_concat (zer (nxt C) C.length (inR C)) with e | ⟨_, x, e⟩
          · exact e
          · have hx : x ∈ zer (nxt C) C.length (inR C) := by rw [e]; simp
            have := hsub x hx
            subst this
            exact absurd (mem_zer.1 hx).2.2 c1
        rw [this]; rfl
  have hcl := cnt_le (inR C)
  have ho := ord_eq hC hl (C.length + 96) (by omega) C.length (C.length + 2) (inR C) F [] (by omega) (by omega) h2 h3 (fun a ha b hb => (h4 b (nxt_lt hb)).2 (((h4 a (by have := at_lt ha; omega)).1 ha).step hb)) h5 (by simp; omega)
  rw [hR, show ([] : List Int) = toI [] from rfl, ho, Option.bind_some, hct]
  have hsum := ordS_cnt (N := nxt C) (n := C.length) C.length (inR C) []
  rw [toI_len]
  unfold ordR
  by_cases c : cnt (ordS (nxt C) C.length C.length (inR C) []).2 = 0
  · rw [if_pos c, if_neg (by simp at hsum; omega)]
  · rw [if_neg c, if_pos (by simp at hsum; omega)]; rfl
end
end Go.Proofs.YtkjcjlegokdpdaaDoor.Pure
