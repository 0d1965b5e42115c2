/- Chapter 05: to what places lead: the program's next. -/
import Derived.Test.YtkjcjlegokdpdaaDoorGb
import Derived.Test.YtkjcjlegokdpdaaDoorNx
import Derived.Test.YtkjcjlegokdpdaaDoorPx7
namespace Go.Proofs.YtkjcjlegokdpdaaDoor.Pure
open Go.RowKit Go.Proofs.YtkjcjlegokdpdaaDoorW.PrintWords Go.Proofs.YtkjcjlegokdpdaaDoorW.PrintLast Go.Proofs.YtkjcjlegokdpdaaDoorW.PrintMore Go.Proofs.YtkjcjlegokdpdaaDoor.P Go.Proofs.YtkjcjlegokdpdaaDoor.Opening
set_option linter.unusedVariables false
set_option linter.unusedSimpArgs false

def toI (l : List Nat) : List Int := l.map fun (x : Nat) => (x : Int)
/-- Does a place lead to another, by its class? -/
def leadC (C : List S44) (c : Int) (i b : Nat) : Bool :=
  if c = 9 then false else if c = 7 then decide ((b : Int) = farV C (i : Int)) else if c = 6 then decide ((b : Int) = farV C (i : Int) ∨ b = i + 1)
  else if c = 10 ∨ c = 11 then decide (b = i + 2) else decide (b = i + 1)
def leadB (C : List S44) (i b : Nat) : Bool := bgR C i && (bgR C b && (decide ((ofx (rdn C i)).2.2.2.2.2 = 0) && leadC C (ofx (rdn C i)).1 i b))
def nxt (C : List S44) (i : Nat) : List Nat := if i < C.length then (List.range C.length).filter (leadB C i) else []
theorem mem_nxt {C : List S44} {i b : Nat} : b ∈ nxt C i ↔ i < C.length ∧ b < C.length ∧ leadB C i b = true := by
  unfold nxt
  split
  · rename_i h; rw [List.mem_filter, List.mem_range]; exact ⟨fun x => ⟨h, x⟩, fun x => x.2⟩
  · rename_i h; simp [h]
theorem nxt_up (C : List S44) (i : Nat) : Up (nxt C i) := by
  unfold nxt; split
  · exact up_range _ _
  · exact List.Pairwise.nil
theorem nxt_lt {C : List S44} {i b : Nat} (h : b ∈ nxt C i) : b < C.length := (mem_nxt.1 h).2.1
theorem contains_dec (l : List Int) (t : Int) (hl : l.length < 30) : slices_Contains_int_int.f 40 l t = some (decide (t ∈ l)) := by
  obtain ⟨r, hr, hr2⟩ := index_l0 l t hl l.length 0 (39 - l.length) (by omega) (by omega)
  rw [show l.length + 1 + (39 - l.length) = 40 by omega, show ((0 : Nat) : Int) = 0 from rfl] at hr
  unfold slices_Contains_int_int.f slices_Index_int_int.f
  rw [hr, Option.bind_some]
  refine congrArg some (decide_eq_decide.2 (hr2.trans ⟨?_, fun h => ?_⟩))
  · rintro ⟨j, _, h2, h3⟩
    unfold rd at h3
    rw [Int.toNat_natCast, List.getD_eq_getElem?_getD, List.getElem?_eq_getElem h2] at h3
    rw [← h3]; exact List.getElem_mem _
  · obtain ⟨j, hj, e⟩ := List.getElem_of_mem h
    refine ⟨j, Nat.zero_le _, hj, ?_⟩
    unfold rd
    rw [Int.toNat_natCast, List.getD_eq_getElem?_getD, List.getElem?_eq_getElem hj]; exact e
section
variable {C : List S44}
def good (C : List S44) (t : Int) : Prop := 0 ≤ t ∧ t < (C.length : Int) ∧ bgR C t.toNat = true
instance (C : List S44) (t : Int) : Decidable (good C t) := by unfold good; infer_instance
theorem addP_iff (l : List Int) (t : Int) (hl : l.length < 30) : addP C.length (stC C) l t ↔ good C t ∧ t ∉ l := by
  unfold addP good
  rw [contains_dec l t hl]
  constructor
  · rintro ⟨a, b, c, d⟩
    refine ⟨⟨a, b, ?_⟩, by simpa using d⟩
    have := stC_rd (C := C) (i := t.toNat) (by omega)
    rw [Int.toNat_of_nonneg a] at this
    rw [← this]; exact c
  · rintro ⟨⟨a, b, c⟩, d⟩
    refine ⟨a, b, ?_, by simp [d]⟩
    have := stC_rd (C := C) (i := t.toNat) (by omega)
    rw [Int.toNat_of_nonneg a] at this
    rw [this]; exact c
def one (C : List S44) (t : Int) : List Nat := if good C t then [t.toNat] else []
theorem add_one (t : Int) : addV C.length (stC C) [] t = toI (one C t) := by
  unfold addV one toI
  have h := addP_iff (C := C) [] t (by simp)
  by_cases g : good C t
  · rw [if_pos (h.2 ⟨g, by simp⟩), if_pos g]
    simp [Int.toNat_of_nonneg g.1]
  · rw [if_neg (fun x => g (h.1 x).1), if_neg g]; rfl
theorem mem_one {t : Int} {b : Nat} : b ∈ one C t ↔ b < C.length ∧ bgR C b = true ∧ (b : Int) = t := by
  unfold one
  by_cases g : good C t
  · rw [if_pos g, List.mem_singleton]
    obtain ⟨g1, g2, g3⟩ := g
    constructor
    · rintro rfl; exact ⟨by omega, g3, Int.toNat_of_nonneg g1⟩
    · rintro ⟨_, _, rfl⟩; simp
  · rw [if_neg g]
    constructor
    · intro h; simp at h
    · rintro ⟨h1, h2, rfl⟩; exact absurd ⟨by omega, by omega, by simpa using h2⟩ g
theorem one_up (t : Int) : Up (one C t) := by unfold one; split; exact List.pairwise_singleton _ _; exact List.Pairwise.nil
def two (C : List S44) (a b : Int) : List Nat := if good C b ∧ b ∉ toI (one C a) then one C a ++ [b.toNat] else one C a
theorem add_two (a b : Int) : addV C.length (stC C) (addV C.length (stC C) [] a) b = toI (two C a b) := by
  have hl : (toI (one C a)).length < 30 := by unfold toI one; split <;> simp
  rw [add_one]
  unfold addV two
  have h := addP_iff (C := C) (toI (one C a)) b hl
  by_cases g : good C b ∧ b ∉ toI (one C a)
  · rw [if_pos (h.2 g), if_pos g]
    unfold toI
    rw [List.map_append]
    simp [Int.toNat_of_nonneg g.1.1]
  · rw [if_neg (fun x => g (h.1 x)), if_neg g]
theorem mem_toI {l : List Nat} {b : Nat} : (b : Int) ∈ toI l ↔ b ∈ l := by
  unfold toI
  rw [List.mem_map]
  constructor
  · rintro ⟨x, hx, e⟩; obtain rfl : x = b := by omega
    exact hx
  · exact fun h => ⟨b, h, rfl⟩
theorem mem_two {a b : Int} {x : Nat} : x ∈ two C a b ↔ x < C.length ∧ bgR C x = true ∧ ((x : Int) = a ∨ (x : Int) = b) := by
  unfold two
  split
  · rename_i g
    rw [List.mem_append, mem_one, List.mem_singleton]
    constructor
    · rintro (h | rfl)
      · exact ⟨h.1, h.2.1, .inl h.2.2⟩
      · obtain ⟨⟨g1, g2, g3⟩, _⟩ := g
        exact ⟨by omega, g3, .inr (Int.toNat_of_nonneg g1)⟩
    · rintro ⟨h1, h2, h3 | h3⟩
      · exact .inl ⟨h1, h2, h3⟩
      · exact .inr (by omega)
  · rename_i g
    rw [mem_one]
    constructor
    · exact fun h => ⟨h.1, h.2.1, .inl h.2.2⟩
    · rintro ⟨h1, h2, h3 | h3⟩
      · exact ⟨h1, h2, h3⟩
      · refine ⟨h1, h2, ?_⟩
        have gb : good C b := ⟨by omega, by omega, by rw [← h3]; simpa using h2⟩
        have hm : b ∈ toI (one C a) := Decidable.byContradiction fun hn => g ⟨gb, hn⟩
        rw [← h3, mem_toI, mem_one] at hm
        exact hm.2.2
theorem two_up {a b : Int} (h : a ≤ b) : Up (two C a b) := by
  unfold two
  split
  · rename_i g
    refine List.pairwise_append.2 ⟨one_up a, List.pairwise_singleton _ _, fun x hx y hy => ?_⟩
    rw [List.mem_singleton] at hy
    subst hy
    obtain ⟨h1, h2, h3⟩ := mem_one.1 hx
    have hne : b ≠ a := fun e => g.2 (by have h9 := mem_toI.2 hx; rw [h3] at h9; rw [e]; exact h9)
    have := g.1.1
    omega
  · exact one_up a
theorem nextV_eq {i : Nat} (hi : i < C.length) (hl : C.length ≤ 1000000) (hb : bgR C i = true) (he : (ofx (rdn C i)).2.2.2.2.2 = 0) : nextV C (stC C) (i : Int) (ofx (rdn C i)).1 = toI (nxt C i) := by
  have hw1 : wrap64 ((i : Int) + 1) = ((i + 1 : Nat) : Int) := by rw [fitW (by omega) (by omega)]; rfl
  have hw2 : wrap64 ((i : Int) + 2) = ((i + 2 : Nat) : Int) := by rw [fitW (by omega) (by omega)]; rfl
  have fin : ∀ M : List Nat, Up M → (∀ b, b ∈ M ↔ b < C.length ∧ bgR C b = true ∧ leadC C (ofx (rdn C i)).1 i b = true) → toI M = toI (nxt C i) := fun M hM h => by
    refine congrArg toI (up_ext hM (nxt_up C i) fun b => ?_)
    rw [h b, mem_nxt]
    unfold leadB
    rw [hb, he]
    simp only [Bool.true_and, decide_true, Bool.and_eq_true]
    exact ⟨fun x => ⟨hi, x.1, x.2⟩, fun x => x.2⟩
  unfold nextV
  generalize (ofx (rdn C i)).1 = c at fin ⊢
  by_cases c9 : c = 9
  · rw [if_pos c9]
    exact fin [] List.Pairwise.nil (fun b => by unfold leadC; rw [if_pos c9]; simp)
  rw [if_neg c9]
  by_cases c7 : c = 7
  · rw [if_pos c7, add_one]
    exact fin _ (one_up _) (fun b => by rw [mem_one]; unfold leadC; rw [if_neg c9, if_pos c7, decide_eq_true_eq])
  rw [if_neg c7]
  by_cases c6 : c = 6
  · rw [if_pos c6, hw1, add_two]
    refine fin _ (two_up (by unfold mn mx; split <;> split <;> omega)) (fun b => ?_)
    rw [mem_two]; unfold leadC; rw [if_neg c9, if_neg c7, if_pos c6, decide_eq_true_eq]
    refine and_congr_right fun _ => and_congr_right fun _ => ?_
    unfold mn mx
    split <;> split <;> omega
  rw [if_neg c6]
  by_cases c1 : c = 10 ∨ c = 11
  · rw [if_pos c1, hw2, add_one]
    exact fin _ (one_up _) (fun b => by rw [mem_one]; unfold leadC; rw [if_neg c9, if_neg c7, if_neg c6, if_pos c1, decide_eq_true_eq]; refine and_congr_right fun _ => and_congr_right fun _ => ?_; omega)
  · rw [if_neg c1, hw1, add_one]
    exact fin _ (one_up _) (fun b => by rw [mem_one]; unfold leadC; rw [if_neg c9, if_neg c7, if_neg c6, if_neg c1, decide_eq_true_eq]; refine and_congr_right fun _ => and_congr_right fun _ => ?_; omega)
theorem nextK_eq (hC : ∀ z ∈ C, ok44 z) (hl : C.length ≤ 1000000) (k i : Nat) : nextK (k + 4) C (stC C) (i : Int) = some (toI (nxt C i)) := by
  unfold nextK
  rw [if_pos (stC_len C), if_neg (by omega)]
  by_cases hi : i < C.length
  · rw [if_neg (by omega), stC_rd hi]
    by_cases hb : bgR C i = true
    · rw [if_pos hb, of_at (ok_rd hC _) k, Option.bind_some]
      have er : rd_T44 C (i : Int) = rdn C i := rfl
      rw [er]
      by_cases he : (ofx (rdn C i)).2.2.2.2.2 = 0
      · rw [if_pos he, nextV_eq hi hl hb he]
      · rw [if_neg he]
        have : nxt C i = [] := by
          refine List.eq_nil_iff_forall_not_mem.2 fun b hm => ?_
          have := (mem_nxt.1 hm).2.2
          unfold leadB at this
          simp [he] at this
        rw [this]; rfl
    · rw [if_neg hb]
      have : nxt C i = [] := by
        refine List.eq_nil_iff_forall_not_mem.2 fun b hm => ?_
        have := (mem_nxt.1 hm).2.2
        unfold leadB at this
        simp [hb] at this
      rw [this]; rfl
  · rw [if_pos (by omega)]
    have : nxt C i = [] := by unfold nxt; rw [if_neg hi]
    rw [this]; rfl
theorem nextK_neg (hC : ∀ z ∈ C, ok44 z) (k : Nat) {a : Int} (h : a < 0) : nextK k C (stC C) a = some [] := by
  unfold nextK
  rw [if_pos (stC_len C), if_pos h]
/-- To what any number leads. -/
def nxI (C : List S44) (a : Int) : List Int := if a < 0 then [] else toI (nxt C a.toNat)
theorem next_eq (hC : ∀ z ∈ C, ok44 z) (hl : C.length ≤ 1000000) (a : Int) : graph_next.f C (stC C) a = some (nxI C a) := by
  unfold graph_next.f nxI
  by_cases h : a < 0
  · rw [if_pos h, nextK_neg hC 40 h]
  · rw [if_neg h]
    have := nextK_eq hC hl 36 a.toNat
    rw [Int.toNat_of_nonneg (by omega)] at this
    exact this
theorem Next_eq (hC : ∀ z ∈ C, ok44 z) (hl : C.length ≤ 1000000) (k : Nat) (a : Int) : graph_Next.f (C.length + 5 + k) C a = some (nxI C a) := by
  unfold graph_Next.f
  rw [starts_eq hC (by omega), Option.bind_some, next_eq hC hl, Option.bind_some]
end
end Go.Proofs.YtkjcjlegokdpdaaDoor.Pure
