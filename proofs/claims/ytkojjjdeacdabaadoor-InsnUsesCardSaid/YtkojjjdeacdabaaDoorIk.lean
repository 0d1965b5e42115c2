/- Chapter 02: the document's Reads, Writes, Places answer as the program's. -/
import Derived.Test.YtkojjjdeacdabaaDoorIj
import Derived.Test.YtkojjjdeacdabaaDoorId
namespace Go.Proofs.YtkojjjdeacdabaaDoor.Pure
open Go.RowKit Go.Proofs.YtkojjjdeacdabaaDoorW.PrintWords Go.Proofs.YtkojjjdeacdabaaDoorW.PrintLast Go.Proofs.YtkojjjdeacdabaaDoorW.PrintMore Go.Proofs.YtkojjjdeacdabaaDoor.P
set_option linter.unusedVariables false
set_option linter.unusedSimpArgs false

def useOk (t : Option FT) (w : W5) : Bool :=
  match t with
  | none => decide (w = zeroV)
  | some (_, _, _, _, _, _, D, S, _, _, _) => (decide (D = 1) == ((fieldsV w).1 && !(fieldsV w).2.1)) && (decide (D = 2) == (fieldsV w).2.1) && (decide (S = 1) == (fieldsV w).2.2.1)
theorem find_hd (s i : Int) : ∀ l : List FT, l.all (fun t => decide (t.2.2.2.2.2.2.2.1 ≠ 4) && decide (t.2.2.2.2.2.2.2.2.2.1 ≠ 4)) = true → l.find? (hit s i) = l.head?
  | [], _ => rfl
  | t :: l, h => by
    simp only [List.all_cons, Bool.and_eq_true, decide_eq_true_eq] at h
    rw [List.find?_cons, show hit s i t = true by simp [hit, h.1.1, h.1.2]]
    rfl
theorem use_ok {op src imm : Int} (h0 : 0 ≤ op) (h1 : op ≤ 255) (s0 : 0 ≤ src) : useOk ((rowsOf op).find? (hit src imm)) (kindV op src imm) = true := by
  by_cases c1 : op = 24
  · subst c1
    have hr : rowsOf 24 = [(24, 10, 0, 0, false, false, 2, 4, 0, 3, 0), (24, 11, 0, 0, false, false, 2, 4, 0, 3, 1)] := by decide +kernel
    rw [k24]
    by_cases e0 : src = 0
    · subst e0
      rw [show (rowsOf 24).find? (hit 0 imm) = some (24, 10, 0, 0, false, false, 2, 4, 0, 3, 0) by rw [hr]; simp [hit]]
      decide +kernel
    by_cases e1 : src = 1
    · subst e1
      rw [show (rowsOf 24).find? (hit 1 imm) = some (24, 11, 0, 0, false, false, 2, 4, 0, 3, 1) by rw [hr]; simp [hit]]
      decide +kernel
    · rw [show (rowsOf 24).find? (hit src imm) = none by rw [hr]; simp [hit, e0, e1], show kindV 24 src 0 = zeroV by unfold kindV; rw [if_neg (by decide), if_neg (by decide), if_pos (by decide), if_neg (by omega)]]
      decide +kernel
  by_cases c2 : op = 215
  · subst c2
    have hr : rowsOf 215 = [(215, 2, 0, 2, false, false, 2, 0, 0, 4, 16), (215, 2, 0, 4, false, false, 2, 0, 0, 4, 32), (215, 2, 0, 8, false, false, 2, 0, 0, 4, 64)] := by decide +kernel
    rw [k215]
    by_cases e0 : imm = 16
    · subst e0
      rw [show (rowsOf 215).find? (hit src 16) = some (215, 2, 0, 2, false, false, 2, 0, 0, 4, 16) by rw [hr]; simp [hit]]
      decide +kernel
    by_cases e1 : imm = 32
    · subst e1
      rw [show (rowsOf 215).find? (hit src 32) = some (215, 2, 0, 4, false, false, 2, 0, 0, 4, 32) by rw [hr]; simp [hit]]
      decide +kernel
    by_cases e2 : imm = 64
    · subst e2
      rw [show (rowsOf 215).find? (hit src 64) = some (215, 2, 0, 8, false, false, 2, 0, 0, 4, 64) by rw [hr]; simp [hit]]
      decide +kernel
    · rw [show (rowsOf 215).find? (hit src imm) = none by rw [hr]; simp [hit, e0, e1, e2], show kindV 215 0 imm = zeroV by unfold kindV; simp [e0, e1, e2]]
      decide +kernel
  rw [kA c1 c2]
  have h : ∀ n : Fin 256, (n.val : Int) ≠ 24 → (n.val : Int) ≠ 215 → (rowsOf (n.val : Int)).all (fun t => decide (t.2.2.2.2.2.2.2.1 ≠ 4) && decide (t.2.2.2.2.2.2.2.2.2.1 ≠ 4)) = true ∧ useOk (rowsOf (n.val : Int)).head? (kindV (n.val : Int) 0 0) = true := by decide +kernel
  obtain ⟨n, rfl⟩ := Int.eq_ofNat_of_zero_le h0
  obtain ⟨a, b⟩ := h ⟨n, by omega⟩ c1 c2
  dsimp only at a b
  rw [find_hd _ _ _ a]; exact b
def pB (d s z : Bool) (x y n : Int) : Bool := (d && decide (x = n)) || (s && decide (y = n)) || (z && decide (n = 0))
def upL (i : Nat) : List Int := (List.range' i (11 - i)).map Int.ofNat
theorem upL_lt {i : Nat} (h : i < 11) : upL i = (i : Int) :: upL (i + 1) := by
  unfold upL
  rw [show 11 - i = (11 - (i + 1)) + 1 by omega, List.range'_succ]; rfl
def dB (D a b : Int) : Bool := decide (D = 1) || (decide (a = 1) && decide (b ≠ 11)) || decide (a = 2)
set_option maxHeartbeats 2000000 in
theorem refReads_l0 {op dst src off imm : Int} (d0 : 0 ≤ dst) (d1 : dst ≤ 255) (s0 : 0 ≤ src) (s1 : src ≤ 255) (a b c : Int) (d e : Bool) (r0 r1 r2 r3 : Int) (r4 r5 : Bool) (D S r8 r9 r10 : Int) :
    ∀ (n i k : Nat) (l : List Int), 11 - i = n → i ≤ 11 → l.length ≤ i → 3 * n < k →
      stockaderef02_Reads.l0 k l i op dst src off imm a b c d e r0 r1 r2 r3 r4 r5 D S r8 r9 r10 = some (l ++ (upL i).filter (pB (dB D a b) (decide (S = 1)) (decide (a = 9)) dst src))
  | n, i, 0, l, _, _, _, hk => by omega
  | n, i, k + 1, l, hn, hi, hl, hk => by
    have ed : wrap64 dst = dst := fitW (by omega) (by omega)
    have es : wrap64 src = src := fitW (by omega) (by omega)
    rw [stockaderef02_Reads.l0]
    by_cases ci : i = 11
    · subst ci
      rw [if_neg (by omega)]
      simp [upL]
    · have ew : wrap64 ((i : Int) + 1) = ((i + 1 : Nat) : Int) := by rw [fitW (by omega) (by omega)]; omega
      obtain ⟨j, rfl⟩ : ∃ j, k = j + 2 := ⟨k - 2, by omega⟩
      have ih1 := refReads_l0 (op := op) (off := off) (imm := imm) d0 d1 s0 s1 a b c d e r0 r1 r2 r3 r4 r5 D S r8 r9 r10 (n - 1) (i + 1) j l (by omega) (by omega) (by omega) (by omega)
      have ih2 := refReads_l0 (op := op) (off := off) (imm := imm) d0 d1 s0 s1 a b c d e r0 r1 r2 r3 r4 r5 D S r8 r9 r10 (n - 1) (i + 1) j (l ++ [(i : Int)]) (by omega) (by omega) (by simp; omega) (by omega)
      have j2 : ∀ p : Bool, stockaderef02_Reads.j2 (j + 1) l i p op dst src off imm a b c d e r0 r1 r2 r3 r4 r5 D S r8 r9 r10 = some ((if p = true then l ++ [(i : Int)] else l) ++ (upL (i + 1)).filter (pB (dB D a b) (decide (S = 1)) (decide (a = 9)) dst src)) := by
        intro p
        cases p
        · rw [stockaderef02_Reads.j2, if_neg (by decide), ew, ih1, if_neg (by decide)]
        · rw [stockaderef02_Reads.j2, if_pos rfl, if_pos (show l.length < 17592186044416 by omega), ew, ih2, if_pos rfl]
      have j1 : ∀ p : Bool, stockaderef02_Reads.j1 (j + 2) l i p op dst src off imm a b c d e r0 r1 r2 r3 r4 r5 D S r8 r9 r10 = some ((if pB p (decide (S = 1)) (decide (a = 9)) dst src i = true then l ++ [(i : Int)] else l) ++ (upL (i + 1)).filter (pB (dB D a b) (decide (S = 1)) (decide (a = 9)) dst src)) := by
        intro p
        rw [show j + 2 = (j + 1) + 1 from rfl, stockaderef02_Reads.j1]
        simp only [j2, ed, es]
        clear ih1 ih2 j2 hn hi hl ed es ci ew hk d0 d1 s0 s1
        generalize (upL (i + 1)).filter (pB (dB D a b) (decide (S = 1)) (decide (a = 9)) dst src) = F
        generalize (i : Int) = x
        have ex : (x == 0) = decide (x = 0) := rfl
        rw [ex]
        unfold pB
        by_cases c4 : a = 9
        · subst c4
          by_cases c2 : S = 1
          · subst c2
            by_cases c1 : dst = x <;> by_cases c3 : src = x <;> cases p <;> simp [c1, c3]
          · by_cases c1 : dst = x <;> cases p <;> simp [c1, c2]
        · by_cases c2 : S = 1
          · subst c2
            by_cases c1 : dst = x <;> by_cases c3 : src = x <;> cases p <;> simp [c1, c3, c4]
          · by_cases c1 : dst = x <;> cases p <;> simp [c1, c2, c4]
      rw [if_pos (by omega)]
      simp only [j1]
      have hf : l ++ (upL i).filter (pB (dB D a b) (decide (S = 1)) (decide (a = 9)) dst src) = (if pB (dB D a b) (decide (S = 1)) (decide (a = 9)) dst src i = true then l ++ [(i : Int)] else l) ++ (upL (i + 1)).filter (pB (dB D a b) (decide (S = 1)) (decide (a = 9)) dst src) := by
        rw [upL_lt (by omega), List.filter_cons]
        split <;> simp
      rw [hf]
      unfold dB
      by_cases c1 : D = 1
      · simp [c1]
      · by_cases c2 : a = 1
        · subst c2; by_cases c3 : b = 11 <;> simp [c1, c3]
        · by_cases c4 : a = 2
          · subst c4; simp [c1]
          · have e4 : (a == 2) = false := by simp [c4]
            simp [c1, c2, c4, e4]
end Go.Proofs.YtkojjjdeacdabaaDoor.Pure
