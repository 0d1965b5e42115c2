/- Chapter 02: the document's Make answers as the program's. -/
import Derived.Test.YtkojjjdeacdabaaDoorIh
namespace Go.Proofs.YtkojjjdeacdabaaDoor.Pure
open Go.RowKit Go.Proofs.YtkojjjdeacdabaaDoorW.PrintWords Go.Proofs.YtkojjjdeacdabaaDoorW.PrintLast Go.Proofs.YtkojjjdeacdabaaDoorW.PrintMore Go.Proofs.YtkojjjdeacdabaaDoor.P
set_option linter.unusedVariables false
set_option linter.unusedSimpArgs false

def wOf (r : S65) : W5 := (r.f1.f0, r.f1.f1, r.f1.f2, r.f1.f3, r.f1.f4)
def done (op dst src off imm : Int) : Int × Int × Int × Int × Int × Int :=
  if (ofV op dst src off imm).2.2.2.2.2 = 0 then (op, dst, src, off, imm, 0) else (0, 0, 0, 0, 0, (ofV op dst src off imm).2.2.2.2.2)
def rowSrc (r : S65) (src : Int) : Int := if r.f3 = 4 then r.f6 % 256 else src
def rowImm (r : S65) (imm : Int) : Int := if r.f5 = 4 then wrap32 r.f6 else imm
def refM (t : Option S65) (dst src off imm : Int) : Int × Int × Int × Int × Int × Int :=
  match t with
  | none => (0, 0, 0, 0, 0, 1)
  | some r => done r.f0 dst (rowSrc r src) off (rowImm r imm)
theorem refMake_l0 (w : W5) {dst src off imm : Int} (d0 : 0 ≤ dst) (hs : B src) (i0 : -2147483648 ≤ imm) (i1 : imm ≤ 2147483647) (l : List S65) (hl : l.length < 1000000) (hr : ∀ r ∈ l, B r.f0) :
    ∀ (n i k : Nat) (op : Int), l.length - i = n → i ≤ l.length → n + 202 < k →
      stockaderef02_Make.l0 k l i w.1 w.2.1 w.2.2.1 w.2.2.2.1 w.2.2.2.2 op dst src off imm = some (refM ((l.drop i).find? fun r => decide (wOf r = w)) dst src off imm)
  | n, i, 0, op, _, _, hk => by omega
  | n, i, k + 1, op, hn, hi, hk => by
    rw [stockaderef02_Make.l0]
    by_cases c : i < l.length
    · have ew : wrap64 ((i : Int) + 1) = ((i + 1 : Nat) : Int) := by rw [fitW (by omega) (by omega)]; omega
      have ih := refMake_l0 w (off := off) d0 hs i0 i1 l hl hr (n - 1) (i + 1) k op (by omega) (by omega) (by omega)
      have he : rd_T65 l (i : Int) = l[i] := by simp [rd_T65, List.getD_eq_getElem?_getD, List.getElem?_eq_getElem c]
      have hb := hr l[i] (List.getElem_mem c)
      rw [if_pos (by omega : (i : Int) < (l.length : Int)), if_pos (by omega : (0 : Int) ≤ (i : Int)), ew, ih, he, List.drop_eq_getElem_cons c, List.find?_cons]
      by_cases hw : wOf l[i] = w
      · rw [show decide (wOf l[i] = w) = true from decide_eq_true hw]
        subst hw
        rw [if_neg (by simp [wOf])]
        have hS : B (rowSrc l[i] src) := by unfold rowSrc; split; exact ⟨by omega, by omega⟩; exact hs
        have hI : -2147483648 ≤ rowImm l[i] imm ∧ rowImm l[i] imm ≤ 2147483647 := by unfold rowImm; split; (unfold wrap32; omega); exact ⟨i0, i1⟩
        have j : stockaderef02_Make.j1 k l i l[i].f0 dst src off (rowImm l[i] imm) = some (done l[i].f0 dst (rowSrc l[i] src) off (rowImm l[i] imm)) := by
          rw [show k = (k - 201 + 200) + 1 by omega, stockaderef02_Make.j1, if_pos (by omega), if_pos (by omega), he]
          unfold done
          by_cases h3 : l[i].f3 = 4
          · have e : rowSrc l[i] src = l[i].f6 % 256 := by unfold rowSrc; rw [if_pos h3]
            rw [e] at hS ⊢
            rw [if_pos h3, refOf_eq (k - 201) hb.1 hb.2 d0 hS.1 hS.2 hI.1 hI.2, Option.bind_some]
            split <;> rfl
          · have e : rowSrc l[i] src = src := by unfold rowSrc; rw [if_neg h3]
            rw [e]
            rw [if_neg h3, refOf_eq (k - 201) hb.1 hb.2 d0 hs.1 hs.2 hI.1 hI.2, Option.bind_some]
            split <;> rfl
        by_cases h5 : l[i].f5 = 4
        · rw [if_pos h5, ← show rowImm l[i] imm = wrap32 l[i].f6 by unfold rowImm; rw [if_pos h5], j]; rfl
        · rw [if_neg h5]
          have e : rowImm l[i] imm = imm := by unfold rowImm; rw [if_neg h5]
          rw [e] at j
          rw [j]
          show some _ = some (done l[i].f0 dst (rowSrc l[i] src) off (rowImm l[i] imm))
          rw [e]
      · rw [show decide (wOf l[i] = w) = false from decide_eq_false hw]
        have hn : ∀ v u : W5, v ≠ u → (!(v.1 == u.1) || (!(v.2.1 == u.2.1) || (!(v.2.2.1 == u.2.2.1) || (!(v.2.2.2.1 == u.2.2.2.1) || (!(v.2.2.2.2 == u.2.2.2.2)))))) = true := by
          rintro ⟨a', b', c', d', e'⟩ ⟨a, b, c, d, e⟩ h
          by_cases h1 : a' = a <;> by_cases h2 : b' = b <;> by_cases h3 : c' = c <;> by_cases h4 : d' = d <;> by_cases h5 : e' = e <;> simp_all
        have hh := hn (wOf l[i]) w hw
        dsimp only [wOf] at hh
        rw [if_pos hh]
    · rw [if_neg (by omega), List.drop_eq_nil_of_le (by omega)]
      rfl
def rowOk (r : S65) : Bool :=
  decide (0 ≤ r.f0 ∧ r.f0 ≤ 255) && decide (wOf r ≠ zeroV) && decide (opM (wOf r) = r.f0) &&
  (if r.f3 = 4 then decide (r.f0 = 24) && decide ((wOf r).1 ≥ 10) && decide (((mx 0 (mn (wOf r).1 12)) - 10) % 256 = r.f6 % 256) && decide (kindV 24 (r.f6 % 256) 0 = wOf r) else decide ((wOf r).1 < 10) && decide (r.f0 ≠ 24)) &&
  (if r.f5 = 4 then decide (r.f0 = 215) && decide ((wOf r).1 = 2) && decide (wrap32 (wrap64 (8 * (Go.bits .and .i64 (wOf r).2.2.1 15))) = wrap32 r.f6) && decide (kindV 215 0 (wrap32 r.f6) = wOf r) else decide ((wOf r).1 ≠ 2) && decide (r.f0 ≠ 215)) &&
  (if r.f0 = 24 ∨ r.f0 = 215 then true else decide (kindV r.f0 0 0 = wOf r))
theorem rows_ok : ∀ r ∈ rowsL, rowOk r = true := by
  have h : rowsL.all rowOk = true := by decide +kernel
  exact fun r hr => List.all_eq_true.1 h r hr
theorem kind_any {op : Int} (h1 : op ≠ 24) (h2 : op ≠ 215) (s i : Int) : kindV op s i = kindV op 0 0 := by
  unfold kindV; simp [h1, h2]
theorem kind_24 (s i : Int) : kindV 24 s i = kindV 24 s 0 := by unfold kindV; simp
theorem kind_215 (s i : Int) : kindV 215 s i = kindV 215 0 i := by unfold kindV; simp
/-- What is some instruction's is some row's. -/
theorem kind_row {op s i : Int} (ho : B op) (hs : B s) : kindV op s i = zeroV ∨ ∃ r ∈ rowsL, wOf r = kindV op s i := by
  have inn : ∀ v : W5, (v = zeroV ∨ v ∈ rowsL.map wOf) → (v = zeroV ∨ ∃ r ∈ rowsL, wOf r = v) := by
    intro v h; rcases h with h | h
    · exact .inl h
    · exact .inr (List.mem_map.1 h)
  apply inn
  by_cases h1 : op = 24
  · subst h1
    rw [kind_24]
    by_cases s0 : s = 0
    · subst s0; right; decide +kernel
    by_cases s1 : s = 1
    · subst s1; right; decide +kernel
    · left; unfold kindV; have := hs.1; simp; omega
  by_cases h2 : op = 215
  · subst h2
    rw [kind_215]
    by_cases c1 : i = 16
    · subst c1; right; decide +kernel
    by_cases c2 : i = 32
    · subst c2; right; decide +kernel
    by_cases c3 : i = 64
    · subst c3; right; decide +kernel
    · left; unfold kindV; simp [c1, c2, c3]
  rw [kind_any h1 h2]
  have h : ∀ n : Fin 256, kindV (n.val : Int) 0 0 = zeroV ∨ kindV (n.val : Int) 0 0 ∈ rowsL.map wOf := by decide +kernel
  obtain ⟨n, rfl⟩ := Int.eq_ofNat_of_zero_le ho.1
  exact h ⟨n, by have := ho.2; omega⟩
theorem make_same (w : W5) {dst src off imm : Int} (hs : B src) : finish w (opM w) dst (srcM w src) off (immM w imm) = refM (rowsL.find? fun r => decide (wOf r = w)) dst src off imm := by
  cases hf : rowsL.find? fun r => decide (wOf r = w) with
  | none =>
    have hno : ∀ r ∈ rowsL, wOf r ≠ w := fun r hr => by simpa using List.find?_eq_none.1 hf r hr
    unfold finish refM
    by_cases hz : w = zeroV
    · rw [if_pos (.inl hz)]
    · have hne : kindV (opM w) (srcM w src) (immM w imm) ≠ w := by
        intro e
        rcases kind_row (i := immM w imm) (B_opM w) (B_srcM w hs) with h | ⟨r, hr, h⟩
        · exact hz (e.symm.trans h)
        · exact hno r hr (h.trans e)
      rw [if_pos (.inr hne)]
  | some r =>
    have hw : wOf r = w := by simpa using List.find?_some hf
    have hr : r ∈ rowsL := List.mem_of_find?_eq_some hf
    have ok := rows_ok r hr
    subst hw
    unfold rowOk at ok
    simp only [Bool.and_eq_true, decide_eq_true_eq] at ok
    obtain ⟨⟨⟨⟨⟨hb, hz⟩, hop⟩, h3⟩, h5⟩, hk⟩ := ok
    have es : srcM (wOf r) src = rowSrc r src := by
      unfold srcM rowSrc
      by_cases c : r.f3 = 4
      · rw [if_pos c] at h3; simp only [Bool.and_eq_true, decide_eq_true_eq] at h3
        rw [if_pos h3.1.1.2, if_pos c, h3.1.2]
      · rw [if_neg c] at h3; simp only [Bool.and_eq_true, decide_eq_true_eq] at h3
        rw [if_neg (by omega), if_neg c]
    have ei : immM (wOf r) imm = rowImm r imm := by
      unfold immM rowImm
      by_cases c : r.f5 = 4
      · rw [if_pos c] at h5; simp only [Bool.and_eq_true, decide_eq_true_eq] at h5
        rw [if_pos h5.1.1.2, if_pos c, h5.1.2]
      · rw [if_neg c] at h5; simp only [Bool.and_eq_true, decide_eq_true_eq] at h5
        rw [if_neg h5.1, if_neg c]
    have hkind : kindV r.f0 (rowSrc r src) (rowImm r imm) = wOf r := by
      by_cases c3 : r.f3 = 4
      · rw [if_pos c3] at h3; simp only [Bool.and_eq_true, decide_eq_true_eq] at h3
        have e : rowSrc r src = r.f6 % 256 := by unfold rowSrc; rw [if_pos c3]
        rw [h3.1.1.1, kind_24, e]; exact h3.2
      by_cases c5 : r.f5 = 4
      · rw [if_pos c5] at h5; simp only [Bool.and_eq_true, decide_eq_true_eq] at h5
        have e : rowImm r imm = wrap32 r.f6 := by unfold rowImm; rw [if_pos c5]
        rw [h5.1.1.1, kind_215, e]; exact h5.2
      rw [if_neg c3] at h3; simp only [Bool.and_eq_true, decide_eq_true_eq] at h3
      rw [if_neg c5] at h5; simp only [Bool.and_eq_true, decide_eq_true_eq] at h5
      rw [if_neg (by simp [h3.2, h5.2])] at hk
      rw [kind_any h3.2 h5.2]; exact of_decide_eq_true hk
    unfold finish refM done
    rw [hop, es, ei, if_neg (by rintro (h | h); exact hz h; exact h hkind)]
theorem refMake_eq (w : W5) {op dst src off imm : Int} (k : Nat) (d0 : 0 ≤ dst) (hs : B src) (i0 : -2147483648 ≤ imm) (i1 : imm ≤ 2147483647) :
    stockaderef02_Make.f (k + 400) w.1 w.2.1 w.2.2.1 w.2.2.2.1 w.2.2.2.2 op dst src off imm = some (finish w (opM w) dst (srcM w src) off (immM w imm)) := by
  have hl : rowsL.length = 114 := by decide +kernel
  unfold stockaderef02_Make.f
  rw [show k + 400 = (k + 340) + 60 by omega, rows_eq, Option.bind_some]
  have hB : ∀ r ∈ rowsL, B r.f0 := by
    intro r hr
    have ok := rows_ok r hr
    unfold rowOk at ok
    simp only [Bool.and_eq_true, decide_eq_true_eq] at ok
    exact ok.1.1.1.1.1
  have := refMake_l0 w (off := off) d0 hs i0 i1 rowsL (by omega) hB 114 0 (k + 340 + 60) op (by omega) (by omega) (by omega)
  rw [show ((0 : Nat) : Int) = 0 from rfl] at this
  rw [this, List.drop_zero, make_same w hs]
end Go.Proofs.YtkojjjdeacdabaaDoor.Pure
