/- Chapter 18, plain: numbers and pieces of texts. No conditions but the ones each theorem names. -/
import Derived.Test.YtighficpbplkhaaDoorQd
import Derived.Test.YtighficpbplkhaaDoorPx20
import Derived.Lib.SplitLaws
import Derived.Lib.Index
import Derived.Lib.IndexMore
import Derived.Lib.ParseIntBCases
namespace Go.Proofs.YtighficpbplkhaaDoor.Pure
open Go.RowKit Go.Proofs.YtighficpbplkhaaDoorW.PrintWords Go.Proofs.YtighficpbplkhaaDoorW.PrintLast Go.Proofs.YtighficpbplkhaaDoorW.PrintMore Go.Proofs.YtighficpbplkhaaDoor.P
set_option linter.unusedVariables false
set_option linter.unusedSimpArgs false

/-! digits -/
def IsDig (c : UInt8) : Prop := 48 ≤ c.toNat ∧ c.toNat ≤ 57
theorem dig_ofNat {d : Nat} (h : d < 10) : (UInt8.ofNat (48 + d)).toNat = 48 + d := by
  rw [UInt8.toNat_ofNat']; omega
theorem dec_dig : ∀ (m n : Nat), n ≤ m → ∀ c ∈ Lib.decDigits n, IsDig c := by
  intro m
  induction m with
  | zero =>
    intro n hn c hc
    obtain rfl : n = 0 := by omega
    rw [Lib.decDigits_one (by omega)] at hc
    rw [List.mem_singleton.1 hc]
    exact ⟨by rw [dig_ofNat (by omega)]; omega, by rw [dig_ofNat (by omega)]; omega⟩
  | succ m ih =>
    intro n hn c hc
    rw [Lib.decDigits] at hc
    split at hc
    · rename_i h
      rw [List.mem_singleton.1 hc]
      exact ⟨by rw [dig_ofNat h]; omega, by rw [dig_ofNat h]; omega⟩
    · rename_i h
      rcases List.mem_append.1 hc with hc | hc
      · exact ih (n / 10) (by omega) c hc
      · rw [List.mem_singleton.1 hc]
        exact ⟨by rw [dig_ofNat (by omega)]; omega, by rw [dig_ofNat (by omega)]; omega⟩
theorem dg_dig {n : Int} : ∀ c ∈ dg n, IsDig c := dec_dig _ _ (Nat.le_refl _)
def valF (acc : Nat) (l : List UInt8) : Nat := l.foldl (fun a c => a * 10 + (c.toNat - 48)) acc
theorem valF_cons (acc : Nat) (c : UInt8) (l : List UInt8) : valF acc (c :: l) = valF (acc * 10 + (c.toNat - 48)) l := by unfold valF; rw [List.foldl_cons]
theorem valF_le : ∀ (l : List UInt8) (acc : Nat), acc ≤ valF acc l := by
  intro l
  induction l with
  | nil => intro acc; exact Nat.le_refl _
  | cons c l ih => intro acc; rw [valF_cons]; exact Nat.le_trans (by omega) (ih _)
theorem valF_dec : ∀ (m n : Nat), n ≤ m → valF 0 (Lib.decDigits n) = n := by
  intro m
  induction m with
  | zero =>
    intro n hn
    obtain rfl : n = 0 := by omega
    rw [Lib.decDigits_one (by omega)]
    show 0 * 10 + ((UInt8.ofNat (48 + 0)).toNat - 48) = 0
    rw [dig_ofNat (by omega)]
  | succ m ih =>
    intro n hn
    rw [Lib.decDigits]
    split
    · rename_i h
      show 0 * 10 + ((UInt8.ofNat (48 + n)).toNat - 48) = n
      rw [dig_ofNat h]; omega
    · rename_i h
      unfold valF
      rw [List.foldl_append]
      have := ih (n / 10) (by omega)
      unfold valF at this
      rw [this]
      show n / 10 * 10 + ((UInt8.ofNat (48 + n % 10)).toNat - 48) = n
      rw [dig_ofNat (by omega)]; omega
theorem parse_val : ∀ (l : List UInt8) (acc : Nat), (∀ c ∈ l, IsDig c) → valF acc l ≤ 18446744073709551615 → Lib.parseUintM 18446744073709551615 acc l = .ok (valF acc l) := by
  intro l
  induction l with
  | nil => intro acc _ _; rfl
  | cons c l ih =>
    intro acc hd hv
    have hc := hd c List.mem_cons_self
    rw [valF_cons] at hv ⊢
    have := valF_le l (acc * 10 + (c.toNat - 48))
    rw [Lib.parseUintM, if_pos (show 48 ≤ c.toNat ∧ c.toNat ≤ 57 from hc), if_neg (by omega), if_neg (by omega)]
    exact ih _ (fun x hx => hd x (List.mem_cons_of_mem _ hx)) hv
theorem dec_ne (n : Nat) : Lib.decDigits n ≠ [] := fun h => by
  have := Lib.nDigits_pos n
  rw [← Lib.decDigits_length, h] at this
  simp at this
theorem parse_dg {n : Int} (h0 : 0 ≤ n) (h1 : n < 18446744073709551616) : Lib.parseUintB 64 (dg n) = .ok n.toNat := by
  unfold Lib.parseUintB
  rw [if_neg (show ¬ dg n = [] from dec_ne _)]
  have e := valF_dec n.toNat n.toNat (Nat.le_refl _)
  have := parse_val (dg n) 0 dg_dig (by unfold dg; rw [e]; omega)
  rw [show 2 ^ 64 - 1 = 18446744073709551615 from rfl, this]
  unfold dg; rw [e]
theorem cntN_dg {n : Int} (h0 : 0 ≤ n) (h1 : n < 18446744073709551616) : cntN ⟨(dg n).toArray⟩ = n := by
  unfold cntN
  rw [show (⟨(dg n).toArray⟩ : ByteArray).data.toList = dg n from rfl, parse_dg h0 h1]
  simp only; omega
theorem cntB_dg {n : Int} (h0 : 0 ≤ n) (h1 : n < 18446744073709551616) : cntB ⟨(dg n).toArray⟩ = false := by
  unfold cntB
  rw [show (⟨(dg n).toArray⟩ : ByteArray).data.toList = dg n from rfl, parse_dg h0 h1]

/-! pieces -/
theorem occ_char {s sep : List UInt8} {i j : Nat} {c : UInt8} (h : Lib.occAt s sep j = true) (hc : sep[i]? = some c) : s[j + i]? = some c := by
  unfold Lib.occAt at h
  obtain ⟨r, hr⟩ := List.isPrefixOf_iff_prefix.1 h
  have hi : i < sep.length := (List.getElem?_eq_some_iff.1 hc).1
  have : (s.drop j)[i]? = some c := by rw [← hr, List.getElem?_append_left hi]; exact hc
  simpa using this
theorem index_at {A sep B : List UInt8} (h : ∀ j, j < A.length → Lib.occAt (A ++ (sep ++ B)) sep j = false) : Lib.index (A ++ (sep ++ B)) sep = A.length := by
  refine Lib.index_first (by simp) ?_ h
  unfold Lib.occAt
  rw [List.drop_left]
  exact List.isPrefixOf_iff_prefix.2 ⟨B, rfl⟩
theorem cut_at {A sep B : List UInt8} (h : ∀ j, j < A.length → Lib.occAt (A ++ (sep ++ B)) sep j = false) : Lib.cut (A ++ (sep ++ B)) sep = (A, B, true) := by
  unfold Lib.cut
  rw [index_at h, if_pos (by omega), Int.toNat_natCast]
  simp [List.take_left, List.drop_append]
theorem no_occ {A sep B : List UInt8} {c : UInt8} {t : List UInt8} (hs : sep = c :: t) (hc : c ∉ A) : ∀ j, j < A.length → Lib.occAt (A ++ (sep ++ B)) sep j = false := fun j hj => by
  cases h : Lib.occAt (A ++ (sep ++ B)) sep j with
  | false => rfl
  | true =>
    have := occ_char (i := 0) h (by rw [hs]; rfl)
    rw [Nat.add_zero, List.getElem?_append_left hj] at this
    exact absurd (List.mem_of_getElem? this) hc
theorem no_arrow {A B : List UInt8} (hc : 45 ∉ A) : ∀ j, j < A.length → Lib.occAt (A ++ (arrow ++ B)) arrow j = false := fun j hj => by
  cases h : Lib.occAt (A ++ (arrow ++ B)) arrow j with
  | false => rfl
  | true =>
    have := occ_char (i := 1) (c := 45) h rfl
    by_cases hl : j + 1 < A.length
    · rw [List.getElem?_append_left hl] at this
      exact absurd (List.mem_of_getElem? this) hc
    · rw [List.getElem?_append_right (by omega), show j + 1 - A.length = 0 by omega] at this
      simp [arrow] at this
theorem cut_none {s sep : List UInt8} {c : UInt8} (hc : c ∈ sep) (hs : c ∉ s) : Lib.cut s sep = (s, [], false) := by
  have : Lib.index s sep = -1 := Lib.index_none fun j hj => by
    cases h : Lib.occAt s sep j with
    | false => rfl
    | true =>
      obtain ⟨i, hi, rfl⟩ := List.getElem_of_mem hc
      have := occ_char (i := i) h (List.getElem?_eq_getElem hi)
      exact absurd (List.mem_of_getElem? this) hs
  unfold Lib.cut
  rw [this, if_neg (by omega)]
theorem cut_len (s sep : List UInt8) : (Lib.cut s sep).1.length ≤ s.length ∧ (Lib.cut s sep).2.1.length ≤ s.length := by
  unfold Lib.cut
  split
  · simp only [List.length_take, List.length_drop]; omega
  · simp
theorem Cut_eq (s sep : List UInt8) (h : s.length < 4294967281) : strings_Cut.f ⟨s.toArray⟩ ⟨sep.toArray⟩ = some (⟨(Lib.cut s sep).1.toArray⟩, ⟨(Lib.cut s sep).2.1.toArray⟩, (Lib.cut s sep).2.2) := by
  unfold strings_Cut.f
  rw [if_pos (by rw [mk_size]; exact h)]
def hasP (s p : List UInt8) : Bool := decide (p.length ≤ s.length) && (s.take p.length == p)
theorem extr (s : List UInt8) (a b : Nat) : (⟨s.toArray⟩ : ByteArray).extract a b = ⟨((s.drop a).take (b - a)).toArray⟩ := by
  rw [eq_mk ((⟨s.toArray⟩ : ByteArray).extract a b), Lib.extract_data]
theorem HasPrefix_eq (s p : List UInt8) : stringslite_HasPrefix.f ⟨s.toArray⟩ ⟨p.toArray⟩ = some (hasP s p) := by
  unfold stringslite_HasPrefix.f hasP
  rw [mk_size, mk_size]
  by_cases h : p.length ≤ s.length
  · rw [if_pos (by omega), if_pos (by omega), if_pos (by omega), decide_eq_true h, Int.toNat_natCast, extr, mk_list, mk_list, List.drop_zero, Nat.sub_zero, Bool.true_and]
  · rw [if_neg (by omega), decide_eq_false h, Bool.false_and]
theorem hasP_le {s p : List UInt8} (h : hasP s p = true) : p.length ≤ s.length := by
  unfold hasP at h
  simp at h
  exact h.1
theorem CutPrefix_eq (s p : List UInt8) : strings_CutPrefix.f ⟨s.toArray⟩ ⟨p.toArray⟩ = some (if hasP s p = true then (⟨(s.drop p.length).toArray⟩, true) else (⟨s.toArray⟩, false)) := by
  unfold strings_CutPrefix.f stringslite_CutPrefix.f
  rw [HasPrefix_eq]
  simp only [Option.bind_some]
  cases h : hasP s p with
  | false => simp
  | true =>
    have := hasP_le h
    rw [if_pos rfl, mk_size, mk_size, if_pos (by omega), if_pos (by omega), Int.toNat_natCast, extr]
    simp only [Option.bind_some, if_true]
    rw [List.take_of_length_le (by rw [List.length_drop]; omega)]
theorem TrimPrefix_eq (s p : List UInt8) : strings_TrimPrefix.f ⟨s.toArray⟩ ⟨p.toArray⟩ = some (if hasP s p = true then ⟨(s.drop p.length).toArray⟩ else ⟨s.toArray⟩) := by
  unfold strings_TrimPrefix.f stringslite_TrimPrefix.f
  rw [HasPrefix_eq]
  simp only [Option.bind_some]
  cases h : hasP s p with
  | false => simp
  | true =>
    have := hasP_le h
    rw [if_pos rfl, mk_size, mk_size, if_pos (by omega), if_pos (by omega), Int.toNat_natCast, extr]
    simp only [Option.bind_some, if_true]
    rw [List.take_of_length_le (by rw [List.length_drop]; omega)]
theorem hasP_app (p r : List UInt8) : hasP (p ++ r) p = true := by
  unfold hasP
  simp
theorem hasP_head {c d : UInt8} {s p : List UInt8} (h : c ≠ d) : hasP (c :: s) (d :: p) = false := by
  unfold hasP
  simp [h]
/-! split at commas -/
theorem split_one {A : List UInt8} (h : 44 ∉ A) : Lib.splitK [44, 32] 0 (Lib.count A [44, 32]) A = [A] := by
  have : Lib.index A [44, 32] = -1 := by
    refine Lib.index_none fun j hj => ?_
    cases hh : Lib.occAt A [44, 32] j with
    | false => rfl
    | true =>
      have := occ_char (i := 0) (c := 44) hh rfl
      exact absurd (List.mem_of_getElem? this) h
  rw [Lib.count_miss this]; rfl
theorem split_more {A B : List UInt8} (h : 44 ∉ A) : Lib.splitK [44, 32] 0 (Lib.count (A ++ ([44, 32] ++ B)) [44, 32]) (A ++ ([44, 32] ++ B)) = A :: Lib.splitK [44, 32] 0 (Lib.count B [44, 32]) B := by
  have hi : Lib.index (A ++ ([44, 32] ++ B)) [44, 32] = A.length := index_at (no_occ (c := 44) rfl h)
  have hd : (A ++ ([44, 32] ++ B)).drop (A.length + 2) = B := by
    rw [List.drop_append]; simp
  rw [Lib.count_hit (by simp) hi, Nat.add_comm 1, Lib.splitK, hi, if_neg (by simp only [beq_iff_eq]; omega), Int.toNat_natCast, Nat.add_zero, List.take_left]
  simp only [List.length_cons, List.length_nil]
  rw [hd]
theorem split_join : ∀ (t : S50) (ts : List S50), (∀ x ∈ t :: ts, 44 ∉ textL x) → Lib.splitK [44, 32] 0 (Lib.count (Lib.join ((t :: ts).map textL) [44, 32]) [44, 32]) (Lib.join ((t :: ts).map textL) [44, 32]) = (t :: ts).map textL := by
  intro t ts
  induction ts generalizing t with
  | nil => intro h; rw [List.map_cons, List.map_nil, Lib.join_one]; exact split_one (h t List.mem_cons_self)
  | cons u ts ih =>
    intro h
    have e : Lib.join ((t :: u :: ts).map textL) [44, 32] = textL t ++ ([44, 32] ++ Lib.join ((u :: ts).map textL) [44, 32]) := by
      rw [List.map_cons, Lib.join_cons, List.map_cons, Lib.join_cons]
      simp [Lib.joinTail, List.append_assoc]
    rw [e, split_more (h t List.mem_cons_self), ih u (fun x hx => h x (List.mem_cons_of_mem _ hx)), List.map_cons (f := textL) (a := t)]
theorem map_data_inj : ∀ {a b : List ByteArray}, a.map (·.data.toList) = b.map (·.data.toList) → a = b := by
  intro a
  induction a with
  | nil => intro b h; cases b with
    | nil => rfl
    | cons y b => simp at h
  | cons x a ih => intro b h; cases b with
    | nil => simp at h
    | cons y b =>
      simp only [List.map_cons, List.cons.injEq] at h
      rw [ih h.2, eq_mk x, eq_mk y, h.1]
theorem Split_eq (t : S50) (ts : List S50) (h : ∀ x ∈ t :: ts, 44 ∉ textL x) (hl : (Lib.join ((t :: ts).map textL) [44, 32]).length < 4294967281) :
    strings_Split.f ⟨(Lib.join ((t :: ts).map textL) [44, 32]).toArray⟩ ⟨#[44, 32]⟩ = some ((t :: ts).map fun x => (⟨(textL x).toArray⟩ : ByteArray)) := by
  unfold strings_Split.f
  rw [if_pos ⟨by rw [mk_size]; exact hl, by decide⟩]
  congr 1
  apply map_data_inj
  rw [Lib.splitB_data, List.map_map]
  exact split_join t ts h
theorem splitB_sizes (sep : ByteArray) : ∀ (k : Nat) (s : ByteArray), ∀ p ∈ Lib.splitB sep 0 k s, p.size ≤ s.size := by
  intro k
  induction k with
  | zero => intro s p hp; rw [Lib.splitB_zero, List.mem_singleton] at hp; rw [hp]; exact Nat.le_refl _
  | succ k ih =>
    intro s p hp
    rw [Lib.splitB] at hp
    split at hp
    · rw [List.mem_singleton] at hp; rw [hp]; exact Nat.le_refl _
    · rcases List.mem_cons.1 hp with rfl | hp
      · rw [ByteArray.size_extract]; omega
      · have := ih _ p hp
        rw [ByteArray.size_extract] at this; omega
end Go.Proofs.YtighficpbplkhaaDoor.Pure
