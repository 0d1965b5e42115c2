/- Chapter 05: what the program's functions of an instruction come to; where instructions begin. -/
import Derived.Test.YtkjcjlegokdpdaaDoorPx7
import Derived.Test.YtkjcjlegokdpdaaDoorOs
import Derived.Test.YtkjcjlegokdpdaaDoorIo
import Derived.Test.YtkjcjlegokdpdaaDoorGr
namespace Go.Proofs.YtkjcjlegokdpdaaDoor.Pure
open Go.RowKit Go.Proofs.YtkjcjlegokdpdaaDoorW.PrintWords Go.Proofs.YtkjcjlegokdpdaaDoorW.PrintLast Go.Proofs.YtkjcjlegokdpdaaDoorW.PrintMore Go.Proofs.YtkjcjlegokdpdaaDoor.P Go.Proofs.YtkjcjlegokdpdaaDoor.Opening
set_option linter.unusedVariables false
set_option linter.unusedSimpArgs false

/-- What Of answers of an instruction. -/
def ofx (x : S44) : Int × Int × Int × Bool × Bool × Int := ofV x.f0 x.f1 x.f2 x.f3 x.f4
def plx (x : S44) : Int := if (ofx x).2.2.2.2.2 = 0 then placesV (kindV x.f0 x.f2 x.f4) else 0
theorem of_at {x : S44} (h : ok44 x) (k : Nat) : insn_Of.f (k + 4) x.f0 x.f1 x.f2 x.f3 x.f4 = some (ofx x) := by
  obtain ⟨⟨h0, h1⟩, _, ⟨s0, s1⟩, _, ⟨i0, i1⟩⟩ := ok44_open h
  exact Of_eq k h0 h1 s0 s1 i0 i1
theorem pl_at {x : S44} (h : ok44 x) (k : Nat) : insn_Places.f (k + 4) x.f0 x.f1 x.f2 x.f3 x.f4 = some (plx x) := by
  obtain ⟨⟨h0, h1⟩, _, ⟨s0, s1⟩, _, ⟨i0, i1⟩⟩ := ok44_open h
  exact Places_eq k h0 h1 s0 s1 i0 i1
theorem plx_le (x : S44) : plx x = 0 ∨ plx x = 1 ∨ plx x = 2 := by
  unfold plx placesV
  split
  · split
    · exact .inr (.inr rfl)
    · exact .inr (.inl rfl)
  · exact .inl rfl
theorem class_ok {x : S44} (h : (ofx x).1 ≠ 0) : (ofx x).2.2.2.2.2 = 0 := by
  refine Decidable.byContradiction fun hn => ?_
  obtain ⟨r, hr, _⟩ := of_no (op := x.f0) (dst := x.f1) (src := x.f2) (off := x.f3) (imm := x.f4) hn
  unfold ofx at h
  rw [hr] at h
  exact h rfl
theorem pl_of {x : S44} (h : (ofx x).2.2.2.2.2 = 0) : plx x = if (ofx x).1 = 10 ∨ (ofx x).1 = 11 then 2 else 1 := by
  have h' : (ofV x.f0 x.f1 x.f2 x.f3 x.f4).2.2.2.2.2 = 0 := h
  have e := (of_ok h').1
  unfold plx placesV
  rw [if_pos h]
  unfold ofx
  rw [e]; rfl
theorem ok44_z : ok44 z44 := ⟨by decide, by decide, by decide, by decide, by decide⟩
theorem ok_rd {C : List S44} (h : ∀ z ∈ C, ok44 z) (i : Int) : ok44 (rd_T44 C i) := by
  unfold rd_T44
  rw [List.getD_eq_getElem?_getD]
  cases hx : C[i.toNat]? with
  | none => exact ok44_z
  | some x => exact h x (List.mem_of_getElem? hx)
def rdn (C : List S44) (i : Nat) : S44 := rd_T44 C (i : Int)
/-- How far the next one is. -/
def stp (x : S44) : Nat := if plx x = 2 then 2 else 1
theorem stp_or (x : S44) : stp x = 1 ∨ stp x = 2 := by unfold stp; split <;> simp
theorem stp_mx (x : S44) : mx 1 (plx x) = (stp x : Int) := by
  unfold mx stp
  rcases plx_le x with e | e | e <;> rw [e] <;> simp
/-- Does an instruction begin there? -/
def bgR (C : List S44) : Nat → Bool
  | 0 => true
  | i + 1 => !(bgR C i) || decide (stp (rdn C i) = 1)
theorem bgR_one {C : List S44} {i : Nat} (h : stp (rdn C i) = 1) : bgR C (i + 1) = true := by unfold bgR; simp [h]
theorem bgR_two {C : List S44} {i : Nat} (hb : bgR C i = true) (h : stp (rdn C i) = 2) : bgR C (i + 1) = false ∧ bgR C (i + 2) = true := by
  have h1 : bgR C (i + 1) = false := by unfold bgR; simp [h, hb]
  exact ⟨h1, by rw [bgR, h1]; rfl⟩
theorem bgR_congr {C C' : List S44} : ∀ i, (∀ j, j < i → bgR C j = true → stp (rdn C j) = stp (rdn C' j)) → bgR C i = bgR C' i
  | 0, _ => rfl
  | i + 1, h => by
    have ih := bgR_congr (C := C) (C' := C') i (fun j hj => h j (by omega))
    unfold bgR
    rw [← ih]
    cases hb : bgR C i with
    | false => rfl
    | true => rw [h i (by omega) hb]
def stC (C : List S44) : List Bool := (List.range C.length).map (bgR C)
theorem stC_len (C : List S44) : (stC C).length = C.length := by simp [stC]
theorem stC_at {C : List S44} {i : Nat} (h : i < C.length) : at_ (stC C) i = bgR C i := by
  unfold at_ stC
  rw [List.getD_eq_getElem?_getD, List.getElem?_map, List.getElem?_range h]; rfl
theorem rdOf_at (l : List Bool) (i : Nat) : rdOf false l (i : Int) = at_ l i := by unfold rdOf at_; rw [Int.toNat_natCast]
theorem stC_rd {C : List S44} {i : Nat} (h : i < C.length) : rdOf false (stC C) (i : Int) = bgR C i := by rw [rdOf_at, stC_at h]
theorem starts_l0 {C : List S44} (hC : ∀ z ∈ C, ok44 z) (hl : C.length < 4611686018427387904) : ∀ (m i k : Nat) (x : List Bool), C.length - i ≤ m → (i < C.length → bgR C i = true) → x.length = C.length → (∀ j, j < C.length → at_ x j = (decide (j < i) && bgR C j)) → i ≤ C.length + 1 →
    graph_starts.l0 (m + 5 + k) C x (i : Int) = some (stC C)
  | 0, i, k, x, hm, hb, hx, hr, hi => by
    rw [show 0 + 5 + k = (4 + k) + 1 by omega]
    unfold graph_starts.l0
    rw [if_neg (by omega)]
    refine congrArg some (at_ext (by rw [hx, stC_len]) fun j hj => ?_)
    rw [hx] at hj
    rw [hr j hj, stC_at hj, decide_eq_true (by omega)]; simp
  | m + 1, i, k, x, hm, hb, hx, hr, hi => by
    rw [show m + 1 + 5 + k = (m + 5 + k) + 1 by omega]
    unfold graph_starts.l0
    by_cases c : i < C.length
    · have hp := pl_at (ok_rd hC (i : Int)) (m + 1 + k)
      rw [show m + 1 + k + 4 = m + 5 + k by omega] at hp
      have hw : wrap64 ((i : Int) + mx 1 (plx (rd_T44 C (i : Int)))) = ((i + stp (rdn C i) : Nat) : Int) := by
        have := stp_or (rdn C i)
        rw [stp_mx, fitW (by omega) (by unfold rdn at this; omega)]; rfl
      rw [if_pos (by omega), if_pos (by omega), if_pos (by rw [hx]; omega), hp, Option.bind_some, hw, Int.toNat_natCast]
      have hbi := hb c
      have hset : ∀ j, at_ (x.set i true) j = if j = i then true else at_ x j := fun j => at_set (by omega)
      rcases stp_or (rdn C i) with e | e
      · rw [e]
        refine starts_l0 hC hl m (i + 1) k _ (by omega) (fun _ => bgR_one e) (by rw [List.length_set]; exact hx) (fun j hj => ?_) (by omega)
        rw [hset j]
        by_cases ej : j = i
        · rw [if_pos ej, ej, hbi]; simp
        · rw [if_neg ej, hr j hj]
          by_cases lj : j < i
          · rw [decide_eq_true lj, decide_eq_true (show j < i + 1 by omega)]
          · rw [decide_eq_false lj, decide_eq_false (show ¬ j < i + 1 by omega)]
      · rw [e]
        obtain ⟨b1, b2⟩ := bgR_two hbi e
        refine starts_l0 hC hl m (i + 2) k _ (by omega) (fun _ => b2) (by rw [List.length_set]; exact hx) (fun j hj => ?_) (by omega)
        rw [hset j]
        by_cases ej : j = i
        · rw [if_pos ej, ej, hbi]; simp
        · rw [if_neg ej, hr j hj]
          by_cases lj : j < i
          · rw [decide_eq_true lj, decide_eq_true (show j < i + 2 by omega)]
          · rw [decide_eq_false lj]
            by_cases l1 : j = i + 1
            · rw [l1, b1]; simp
            · rw [decide_eq_false (show ¬ j < i + 2 by omega)]
    · rw [if_neg (by omega)]
      refine congrArg some (at_ext (by rw [hx, stC_len]) fun j hj => ?_)
      rw [hx] at hj
      rw [hr j hj, stC_at hj, decide_eq_true (by omega)]; simp
theorem starts_eq {C : List S44} (hC : ∀ z ∈ C, ok44 z) (hl : C.length ≤ 281474976710656) (k : Nat) : graph_starts.f (C.length + 5 + k) C = some (stC C) := by
  unfold graph_starts.f
  rw [if_pos (by omega), if_pos (by simpa using hl), Int.toNat_natCast]
  exact starts_l0 hC (by omega) C.length 0 k _ (by omega) (fun _ => rfl) (by simp) (fun j hj => by unfold at_; rw [List.getD_eq_getElem?_getD, List.getElem?_replicate]; simp [hj]) (by omega)
end Go.Proofs.YtkjcjlegokdpdaaDoor.Pure
