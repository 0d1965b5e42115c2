/- Chapter 02: Make in plain terms. -/
import Derived.Test.YtkojjjdeacdabaaDoorPx14
import Derived.Test.YtkojjjdeacdabaaDoorPx15
import Derived.Test.YtkojjjdeacdabaaDoorIc
import Derived.Test.YtkojjjdeacdabaaDoorId
namespace Go.Proofs.YtkojjjdeacdabaaDoor.Pure
open Go.RowKit Go.Proofs.YtkojjjdeacdabaaDoorW.PrintWords Go.Proofs.YtkojjjdeacdabaaDoorW.PrintLast Go.Proofs.YtkojjjdeacdabaaDoorW.PrintMore Go.Proofs.YtkojjjdeacdabaaDoor.P
set_option linter.unusedVariables false
set_option linter.unusedSimpArgs false

/-- What Make answers once it has an Op, a Src and an Imm. -/
def finish (w : W5) (op dst src off imm : Int) : Int × Int × Int × Int × Int × Int :=
  if w = zeroV ∨ kindV op src imm ≠ w then (0, 0, 0, 0, 0, 1)
  else if (ofV op dst src off imm).2.2.2.2.2 = 0 then (op, dst, src, off, imm, 0) else (0, 0, 0, 0, 0, (ofV op dst src off imm).2.2.2.2.2)
def low (w : W5) : Int := if w.2.2.2.2 = true then 8 else 0
def B (x : Int) : Prop := 0 ≤ x ∧ x ≤ 255
instance (x : Int) : Decidable (B x) := by unfold B; infer_instance
theorem B_or {x y : Int} (hx : B x) (hy : B y) : B (Go.bits .or .u8 x y) := by
  rw [u8_or x y hx.1 (by have := hx.2; omega) hy.1 (by have := hy.2; omega)]
  have h := Nat.or_lt_two_pow (n := 8) (x := x.toNat) (y := y.toNat) (by have := hx.2; have := hx.1; omega) (by have := hy.2; have := hy.1; omega)
  exact ⟨by omega, by omega⟩
theorem B_xor {x y : Int} (hx : B x) (hy : B y) : B (Go.bits .xor .u8 x y) := by
  rw [u8_xor x y hx.1 (by have := hx.2; omega) hy.1 (by have := hy.2; omega)]
  have h := Nat.xor_lt_two_pow (n := 8) (x := x.toNat) (y := y.toNat) (by have := hx.2; have := hx.1; omega) (by have := hy.2; have := hy.1; omega)
  exact ⟨by omega, by omega⟩
def step (size : Int) (o : Int) (x : Int) : Int := if rd gl0 x = size then Go.bits .or .u8 o ((((x) % 256) * 8) % 256) else o
/-- The Op that Make comes to. -/
def opM (w : W5) : Int :=
  if w.1 = 1 then (if w.2.2.2.1 = true then Go.bits .or .u8 (Go.bits .or .u8 (Go.bits .or .u8 ((((w.2.1) % 256) * 16) % 256) (low w)) 4) 3 else Go.bits .or .u8 (Go.bits .or .u8 ((((w.2.1) % 256) * 16) % 256) (low w)) 4)
  else if w.1 = 6 then (if w.2.2.2.1 = true then Go.bits .xor .u8 (Go.bits .or .u8 (Go.bits .or .u8 ((((w.2.1) % 256) * 16) % 256) (low w)) 6) 3 else Go.bits .or .u8 (Go.bits .or .u8 ((((w.2.1) % 256) * 16) % 256) (low w)) 6)
  else if w.1 = 2 then 215
  else if w.1 = 3 ∨ w.1 = 4 ∨ w.1 = 5 then step w.2.2.1 (step w.2.2.1 (step w.2.2.1 (step w.2.2.1 (Go.bits .or .u8 96 (rdOf (0 : Int) ([0, 0, 0, 1, 3, 2] : List Int) w.1)) 0) 1) 2) 3
  else rdOf (0 : Int) ([0, 0, 0, 0, 0, 0, 0, 5, 133, 149, 24, 24] : List Int) (mx 0 (mn w.1 11))
def srcM (w : W5) (src : Int) : Int := if w.1 ≥ 10 then ((mx 0 (mn w.1 12)) - 10) % 256 else src
def immM (w : W5) (imm : Int) : Int := if w.1 = 2 then wrap32 (wrap64 (8 * (Go.bits .and .i64 w.2.2.1 15))) else imm
theorem B_step {s o x : Int} (ho : B o) : B (step s o x) := by
  unfold step; split
  · exact B_or ho ⟨by omega, by omega⟩
  · exact ho
theorem B_low (w : W5) : B (low w) := by unfold low; split <;> exact ⟨by omega, by omega⟩
theorem B_opM (w : W5) : B (opM w) := by
  have hb : B ((((w.2.1) % 256) * 16) % 256) := ⟨by omega, by omega⟩
  have h3 : B 3 := ⟨by omega, by omega⟩
  have h4 : B 4 := ⟨by omega, by omega⟩
  have h6 : B 6 := ⟨by omega, by omega⟩
  have hl := B_low w
  unfold opM
  repeat' split
  · exact B_or (B_or (B_or hb hl) h4) h3
  · exact B_or (B_or hb hl) h4
  · exact B_xor (B_or (B_or hb hl) h6) h3
  · exact B_or (B_or hb hl) h6
  · exact ⟨by omega, by omega⟩
  · rename_i h
    refine B_step (B_step (B_step (B_step (B_or ⟨by omega, by omega⟩ ?_))))
    rcases h with h | h | h <;> rw [h] <;> decide +kernel
  · have : mx 0 (mn w.1 11) = 0 ∨ mx 0 (mn w.1 11) = 1 ∨ mx 0 (mn w.1 11) = 2 ∨ mx 0 (mn w.1 11) = 3 ∨ mx 0 (mn w.1 11) = 4 ∨ mx 0 (mn w.1 11) = 5 ∨ mx 0 (mn w.1 11) = 6 ∨ mx 0 (mn w.1 11) = 7 ∨ mx 0 (mn w.1 11) = 8 ∨ mx 0 (mn w.1 11) = 9 ∨ mx 0 (mn w.1 11) = 10 ∨ mx 0 (mn w.1 11) = 11 := by
      unfold mx mn; split <;> split <;> omega
    rcases this with h | h | h | h | h | h | h | h | h | h | h | h <;> rw [h] <;> decide +kernel
theorem B_srcM (w : W5) {src : Int} (h : B src) : B (srcM w src) := by
  unfold srcM; split
  · exact ⟨by omega, by omega⟩
  · exact h
theorem fin_eq (w : W5) {op dst src off imm : Int} (k : Nat) (ho : B op) (hs : B src) (i0 : -2147483648 ≤ imm) (i1 : imm ≤ 2147483647) :
    insn_Make.j3 (k + 6) w.1 w.2.1 w.2.2.1 w.2.2.2.1 w.2.2.2.2 op dst src off imm = some (finish w op dst src off imm) := by
  obtain ⟨a, b, c, d, e⟩ := w
  rw [show k + 6 = (k + 5) + 1 by omega, insn_Make.j3]
  unfold finish
  by_cases hz : (a, b, c, d, e) = zeroV
  · simp only [zeroV, Prod.mk.injEq] at hz
    obtain ⟨rfl, rfl, rfl, rfl, rfl⟩ := hz
    simp [insn_Make.j4, zeroV]
  · rw [if_neg (by simp only [zeroV, Prod.mk.injEq] at hz; simpa [and_assoc] using hz), show k + 5 = (k + 1) + 4 by omega, kind_eq (k + 1) ho.1 ho.2 hs.1 hs.2 i0 i1, Option.bind_some]
    by_cases hw : kindV op src imm = (a, b, c, d, e)
    · rw [if_neg (by simp [hz, hw])]
      rw [hw]
      simp only [beq_self_eq_true, Bool.not_true, Bool.or_self]
      rw [show k + 1 + 4 = (k + 4) + 1 by omega, insn_Make.j4, if_neg (by decide), Of_eq k ho.1 ho.2 hs.1 hs.2 i0 i1, Option.bind_some]
      split <;> rfl
    · rw [if_pos (.inr hw)]
      have hn : ∀ v : W5, v ≠ (a, b, c, d, e) → (!(v.1 == a) || (!(v.2.1 == b) || (!(v.2.2.1 == c) || (!(v.2.2.2.1 == d) || (!(v.2.2.2.2 == e)))))) = true := by
        rintro ⟨a', b', c', d', e'⟩ h
        by_cases h1 : a' = a <;> by_cases h2 : b' = b <;> by_cases h3 : c' = c <;> by_cases h4 : d' = d <;> by_cases h5 : e' = e <;> simp_all
      rw [hn _ hw, show k + 1 + 4 = (k + 4) + 1 by omega, insn_Make.j4, if_pos rfl]
theorem Make_eq (w : W5) {op dst src off imm : Int} (k : Nat) (hs : B src) (i0 : -2147483648 ≤ imm) (i1 : imm ≤ 2147483647) :
    insn_Make.f (k + 20) w.1 w.2.1 w.2.2.1 w.2.2.2.1 w.2.2.2.2 op dst src off imm = some (finish w (opM w) dst (srcM w src) off (immM w imm)) := by
  have hf : ∀ (j : Nat) (o s i : Int), 6 ≤ j → B o → B s → -2147483648 ≤ i → i ≤ 2147483647 → insn_Make.j3 j w.1 w.2.1 w.2.2.1 w.2.2.2.1 w.2.2.2.2 o dst s off i = some (finish w o dst s off i) := by
    intro j o s i hj ho hs i0 i1
    rw [show j = (j - 6) + 6 by omega]; exact fin_eq w _ ho hs i0 i1
  have hB := B_opM w
  have hS := B_srcM w hs
  have hI : -2147483648 ≤ immM w imm ∧ immM w imm ≤ 2147483647 := by
    unfold immM; split
    · unfold wrap32; omega
    · exact ⟨i0, i1⟩
  have key : insn_Make.j0 (k + 20) (low w) w.1 w.2.1 w.2.2.1 w.2.2.2.1 w.2.2.2.2 op dst src off imm = some (finish w (opM w) dst (srcM w src) off (immM w imm)) := by
    rw [show k + 20 = (k + 19) + 1 by omega, insn_Make.j0]
    by_cases c1 : w.1 = 1
    · have e1 : srcM w src = src := by unfold srcM; rw [if_neg (by omega)]
      have e2 : immM w imm = imm := by unfold immM; rw [if_neg (by omega)]
      rw [if_pos c1, e1, e2]
      rw [e1] at hS
      unfold opM at hB ⊢
      rw [if_pos c1] at hB ⊢
      by_cases h : w.2.2.2.1 = true
      · simp only [if_pos h] at hB ⊢; exact hf _ _ _ _ (by omega) hB hS i0 i1
      · simp only [if_neg h] at hB ⊢; exact hf _ _ _ _ (by omega) hB hS i0 i1
    rw [if_neg c1]
    by_cases c6 : w.1 = 6
    · have e1 : srcM w src = src := by unfold srcM; rw [if_neg (by omega)]
      have e2 : immM w imm = imm := by unfold immM; rw [if_neg (by omega)]
      rw [if_pos c6, e1, e2]
      rw [e1] at hS
      unfold opM at hB ⊢
      rw [if_neg c1, if_pos c6] at hB ⊢
      by_cases h : w.2.2.2.1 = true
      · simp only [if_pos h] at hB ⊢; exact hf _ _ _ _ (by omega) hB hS i0 i1
      · simp only [if_neg h] at hB ⊢; exact hf _ _ _ _ (by omega) hB hS i0 i1
    rw [if_neg c6]
    by_cases c2 : w.1 = 2
    · have e1 : srcM w src = src := by unfold srcM; rw [if_neg (by omega)]
      have e2 : immM w imm = wrap32 (wrap64 (8 * (Go.bits .and .i64 w.2.2.1 15))) := by unfold immM; rw [if_pos c2]
      have e3 : opM w = 215 := by unfold opM; rw [if_neg c1, if_neg c6, if_pos c2]
      rw [e2] at hI
      rw [if_pos c2, e1, e2, e3]
      exact hf _ _ _ _ (by omega) ⟨by omega, by omega⟩ hs hI.1 hI.2
    rw [if_neg c2]
    have hi : immM w imm = imm := by unfold immM; rw [if_neg c2]
    have j1t : (w.1 = 3 ∨ w.1 = 4 ∨ w.1 = 5) → insn_Make.j1 (k + 19) true w.1 w.2.1 w.2.2.1 w.2.2.2.1 w.2.2.2.2 op dst src off imm = some (finish w (opM w) dst (srcM w src) off (immM w imm)) := by
      intro h
      have e1 : srcM w src = src := by unfold srcM; rw [if_neg (by omega)]
      have e3 : opM w = step w.2.2.1 (step w.2.2.1 (step w.2.2.1 (step w.2.2.1 (Go.bits .or .u8 96 (rdOf (0 : Int) ([0, 0, 0, 1, 3, 2] : List Int) w.1)) 0) 1) 2) 3 := by unfold opM; rw [if_neg c1, if_neg c6, if_neg c2, if_pos h]
      have sl : ∀ (j : Nat) (x o : Int), 0 ≤ x → x < 4 → insn_Make.l0 (j + 1) x w.1 w.2.1 w.2.2.1 w.2.2.2.1 w.2.2.2.2 o dst src off imm = insn_Make.l0 j (x + 1) w.1 w.2.1 w.2.2.1 w.2.2.2.1 w.2.2.2.2 (step w.2.2.1 o x) dst src off imm := by
        intro j x o x0 x1
        rw [insn_Make.l0, if_pos x1, if_pos x0, fitW (a := x + 1) (by omega) (by omega)]
        unfold step; split <;> rfl
      rw [e1, hi, e3]
      rw [e3] at hB
      rw [show k + 19 = (k + 18) + 1 by omega, insn_Make.j1, if_pos rfl, if_pos (by omega), if_pos (by omega), show k + 18 = (k + 17) + 1 by omega, sl _ 0 _ (by omega) (by omega), show k + 17 = (k + 16) + 1 by omega, sl _ _ _ (by omega) (by omega),
        show k + 16 = (k + 15) + 1 by omega, sl _ _ _ (by omega) (by omega), show k + 15 = (k + 14) + 1 by omega, sl _ _ _ (by omega) (by omega), show k + 14 = (k + 13) + 1 by omega, insn_Make.l0, if_neg (by omega)]
      exact hf _ _ _ _ (by omega) hB hs i0 i1
    have j1f : ¬ (w.1 = 3 ∨ w.1 = 4 ∨ w.1 = 5) → insn_Make.j1 (k + 19) false w.1 w.2.1 w.2.2.1 w.2.2.2.1 w.2.2.2.2 op dst src off imm = some (finish w (opM w) dst (srcM w src) off (immM w imm)) := by
      intro h
      have e3 : opM w = rdOf (0 : Int) ([0, 0, 0, 0, 0, 0, 0, 5, 133, 149, 24, 24] : List Int) (mx 0 (mn w.1 11)) := by unfold opM; rw [if_neg c1, if_neg c6, if_neg c2, if_neg h]
      have m0 : 0 ≤ mx 0 (mn w.1 11) ∧ mx 0 (mn w.1 11) < 12 := by unfold mx mn; split <;> split <;> omega
      rw [show k + 19 = (k + 18) + 1 by omega, insn_Make.j1, if_neg (by decide), if_pos m0.1, if_pos m0.2, hi]
      rw [e3] at hB ⊢
      unfold srcM at hS ⊢
      by_cases c10 : w.1 ≥ 10
      · rw [if_pos c10] at hS ⊢; rw [if_pos c10]; exact hf _ _ _ _ (by omega) hB hS i0 i1
      · rw [if_neg c10] at hS ⊢; rw [if_neg c10]; exact hf _ _ _ _ (by omega) hB hS i0 i1
    by_cases c3 : w.1 = 3
    · rw [if_pos c3, show (w.1 == 3) = true by simp [c3]]; exact j1t (.inl c3)
    rw [if_neg c3]
    by_cases c4 : w.1 = 4
    · rw [if_pos c4, show (w.1 == 4) = true by simp [c4]]; exact j1t (.inr (.inl c4))
    rw [if_neg c4]
    by_cases c5 : w.1 = 5
    · rw [show (w.1 == 5) = true by simp [c5]]; exact j1t (.inr (.inr c5))
    · rw [show (w.1 == 5) = false by simp [c5]]; exact j1f (by simp [c3, c4, c5])
  unfold insn_Make.f
  unfold low at key
  split <;> rename_i h
  · rw [if_pos h] at key; exact key
  · rw [if_neg h] at key; exact key
end Go.Proofs.YtkojjjdeacdabaaDoor.Pure
