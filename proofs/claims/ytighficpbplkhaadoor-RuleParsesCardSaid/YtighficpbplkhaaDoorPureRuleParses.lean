/- The law RuleParses holds for all texts that memory can hold: any text as a table, or the line that is none, and why, is the document's. -/
-- in one
import Derived.Test.YtighficpbplkhaaDoorPx4
import Derived.Test.YtighficpbplkhaaDoorPx2
import Derived.Test.YtighficpbplkhaaDoorPx21
import Derived.Test.YtighficpbplkhaaDoorPx27
import Derived.Test.YtighficpbplkhaaDoorPx10
import Derived.Lib.ItoaMem
import Derived.Lib.Strings
import Derived.Test.YtighficpbplkhaaDoorPx20
import Derived.Lib.SplitLaws
import Derived.Lib.Index
import Derived.Lib.IndexMore
import Derived.Lib.ParseIntBCases
import Derived.Test.YtighficpbplkhaaDoorPx23
import Derived.Test.YtighficpbplkhaaDoorPx30
import Derived.Test.YtighficpbplkhaaDoorPx31
import Derived.Test.YtighficpbplkhaaDoorPx32
/- Chapter 18, plain: which tests may be; a table's check. No conditions but the ones each theorem names. -/
namespace Go.Proofs.YtighficpbplkhaaDoor.Pure
open Go.RowKit Go.Proofs.YtighficpbplkhaaDoorW.PrintWords Go.Proofs.YtighficpbplkhaaDoorW.PrintLast Go.Proofs.YtighficpbplkhaaDoorW.PrintMore Go.Proofs.YtighficpbplkhaaDoor.P
set_option linter.unusedVariables false
set_option linter.unusedSimpArgs false

/-! with rounds enough -/
theorem Ev.pure {α : Type} {r : α} : Ev (fun _ => some r) r := ⟨0, fun _ _ => rfl⟩
theorem Ev.eq_ {α : Type} {f : Nat → Option α} {r : α} (K0 : Nat) (h : ∀ K, f (K + K0) = some r) : Ev f r := ⟨K0, fun K hK => by have := h (K - K0); rwa [Nat.sub_add_cancel hK] at this⟩
theorem Ev.at_ {α : Type} {f : Nat → Option α} {r s : α} (h : Ev f r) {k : Nat} (m : ∀ k, LeO (f k) (f (k + 1))) (e : f k = some s) : s = r := by
  obtain ⟨K, hK⟩ := h
  have h1 := at_rounds m (Nat.le_max_left k K) e
  rw [hK _ (Nat.le_max_right k K)] at h1
  exact (Option.some.inj h1).symm
theorem Ev.bind_ {α β : Type} {f : Nat → Option α} {g : Nat → α → Option β} {a : α} {b : β} (hf : Ev f a) (hg : Ev (fun K => g K a) b) : Ev (fun K => (f K).bind (g K)) b := by
  obtain ⟨K0, h0⟩ := hf
  obtain ⟨K1, h1⟩ := hg
  exact ⟨max K0 K1, fun K h => by
    have e := h0 K (by omega)
    show (f K).bind (g K) = some b
    rw [e]; exact h1 K (by omega)⟩
theorem Ev.step_ {α : Type} {f g : Nat → Option α} {r : α} (h : ∀ K, f (K + 1) = g K) (hg : Ev g r) : Ev f r := by
  obtain ⟨K0, hK⟩ := hg
  refine ⟨K0 + 1, fun K h1 => ?_⟩
  obtain ⟨K', rfl⟩ : ∃ K', K = K' + 1 := ⟨K - 1, by omega⟩
  rw [h]; exact hK K' (by omega)
theorem Ev.eqn {α : Type} {f g : Nat → Option α} {r : α} (h : ∀ K, f K = g K) (hg : Ev g r) : Ev f r := by
  have : f = g := funext h
  rw [this]; exact hg
theorem w64 {n : Int} (h0 : -9223372036854775808 ≤ n) (h1 : n ≤ 9223372036854775807) : wrap64 n = n := by unfold wrap64; omega

/-! numbers of bytes -/
def fullV (s : Int) : Int := if s = 1 then 255 else if s = 2 then 65535 else if s = 4 then 4294967295 else if s = 8 then 18446744073709551615 else 256 ^ s.toNat - 1
theorem full_eq {s : Int} (h0 : 1 ≤ s) (h1 : s ≤ 8) : rule_full.f s = some (fullV s) := by
  have : s = 1 ∨ s = 2 ∨ s = 3 ∨ s = 4 ∨ s = 5 ∨ s = 6 ∨ s = 7 ∨ s = 8 := by omega
  rcases this with rfl | rfl | rfl | rfl | rfl | rfl | rfl | rfl <;> decide +kernel
/-! which tests may be -/
def tt (x : S55) : S50 := ⟨x.f0, x.f1, x.f2, x.f3, x.f4, x.f5, x.f6⟩
def tr (x : S46) : S53 := ⟨x.f0.map tt, x.f1⟩
/-- What the types say of a test, of a rule (and what is read of them, that they are no larger than memory). -/
def okT (t : S55) : Prop := (-9223372036854775808 ≤ t.f1 ∧ t.f1 ≤ 9223372036854775807) ∧ (-9223372036854775808 ≤ t.f2 ∧ t.f2 ≤ 9223372036854775807) ∧ (-9223372036854775808 ≤ t.f3 ∧ t.f3 ≤ 9223372036854775807) ∧ (0 ≤ t.f4 ∧ t.f4 ≤ 18446744073709551615) ∧ (0 ≤ t.f5 ∧ t.f5 ≤ 18446744073709551615) ∧ (0 ≤ t.f6 ∧ t.f6 ≤ 18446744073709551615)
def okR (z : S46) : Prop := z.f0.length ≤ 140737488351232 ∧ (∀ t ∈ z.f0, okT t) ∧ 0 ≤ z.f1 ∧ z.f1 ≤ 4294967295
def okL (l : List S46) : Prop := l.length ≤ 140737488351232 ∧ ∀ z ∈ l, okR z
def MayP (t : S50) : Prop := t.f5 ≤ t.f6 ∧ ((t.f1 = 1 ∨ t.f1 = 2) ∧ t.f2 = 0 ∧ t.f3 = 0 ∧ t.f4 = 0 ∧ t.f6 < 4294967296 ∨ (t.f1 = 3 ∨ t.f1 = 4) ∧ (t.f3 = 1 ∨ t.f3 = 2 ∨ t.f3 = 4 ∨ t.f3 = 8) ∧ 0 ≤ t.f2 ∧ t.f2 ≤ 255 ∧ 1 ≤ t.f4 ∧ t.f4 ≤ fullV t.f3 ∧ t.f6 ≤ fullV t.f3)
def mayB (t : S50) : Bool := decide (t.f5 ≤ t.f6 ∧ ((t.f1 = 1 ∨ t.f1 = 2) ∧ t.f2 = 0 ∧ t.f3 = 0 ∧ t.f4 = 0 ∧ t.f6 < 4294967296 ∨ (t.f1 = 3 ∨ t.f1 = 4) ∧ (t.f3 = 1 ∨ t.f3 = 2 ∨ t.f3 = 4 ∨ t.f3 = 8) ∧ 0 ≤ t.f2 ∧ t.f2 ≤ 255 ∧ 1 ≤ t.f4 ∧ t.f4 ≤ fullV t.f3 ∧ t.f6 ≤ fullV t.f3))
theorem mayP {t : S50} (h : mayB t = true) : MayP t := by unfold mayB at h; rw [decide_eq_true_eq] at h; exact h
theorem may_j2 (k : Nat) (b : Bool) (x0 : Bool) (x1 x2 x3 x4 x5 x6 : Int) (h : b = false → 1 ≤ x3 ∧ x3 ≤ 8) : rule_may.j2 (k + 1) b x0 x1 x2 x3 x4 x5 x6 = some (!b && decide (0 ≤ x2 ∧ x2 ≤ 255 ∧ 1 ≤ x4 ∧ x4 ≤ fullV x3 ∧ x6 ≤ fullV x3)) := by
  rw [rule_may.j2]
  cases b with
  | true => simp
  | false =>
    obtain ⟨h0, h1⟩ := h rfl
    rw [full_eq h0 h1]
    simp only [Bool.false_eq_true, if_false, Option.bind_some, Bool.not_false, Bool.true_and]
    by_cases c1 : x2 ≥ 0
    · by_cases c2 : x2 ≤ 255
      · by_cases c3 : x4 ≥ 1
        · by_cases c4 : x4 ≤ fullV x3
          · have c1' : 0 ≤ x2 := c1
            have c3' : 1 ≤ x4 := c3
            simp [c1, c2, c3, c4, c1', c3']
          · simp [c1, c2, c3, c4]
        · simp only [if_pos c1, if_pos c2, if_neg c3]; congr 1; symm; simp only [decide_eq_false_iff_not]; omega
      · simp [c1, c2]
    · simp only [if_neg c1]; congr 1; symm; simp only [decide_eq_false_iff_not]; omega
theorem may_eq (k : Nat) (t : S50) : rule_may.f (k + 3) t.f0 t.f1 t.f2 t.f3 t.f4 t.f5 t.f6 = some (mayB t) := by
  obtain ⟨x0, x1, x2, x3, x4, x5, x6⟩ := t
  unfold rule_may.f mayB
  dsimp only
  by_cases c0 : x5 > x6
  · rw [if_pos c0]; congr 1; symm; simp only [decide_eq_false_iff_not]; omega
  · rw [if_neg c0]
    have c0' : x5 ≤ x6 := by omega
    by_cases c1 : x1 = 1
    · subst c1
      simp only [if_true, rule_may.j0, c0', true_and, true_or, Int.reduceEq, false_or, false_and, or_false]
      by_cases a : x2 = 0 <;> by_cases b : x3 = 0 <;> by_cases c : x4 = 0 <;> simp [a, b, c]
    · by_cases c2 : x1 = 2
      · subst c2
        simp only [if_true, rule_may.j0, c0', true_and, Int.reduceEq, if_false, BEq.rfl, or_true, false_or, false_and, or_false]
        by_cases a : x2 = 0 <;> by_cases b : x3 = 0 <;> by_cases c : x4 = 0 <;> simp [a, b, c]
      · have c2b : (x1 == 2) = false := by simp [c2]
        rw [if_neg c1, c2b]
        simp only [rule_may.j0, Bool.false_eq_true, if_false, c0', c1, c2, or_self, false_and, false_or, true_and]
        have key : ∀ b : Bool, rule_may.j1 (k + 2) b x0 x1 x2 x3 x4 x5 x6 = some (!b && decide ((x3 = 1 ∨ x3 = 2 ∨ x3 = 4 ∨ x3 = 8) ∧ 0 ≤ x2 ∧ x2 ≤ 255 ∧ 1 ≤ x4 ∧ x4 ≤ fullV x3 ∧ x6 ≤ fullV x3)) := by
          intro b
          rw [rule_may.j1]
          cases b with
          | true => simp
          | false =>
            simp only [Bool.false_eq_true, if_false, Bool.not_false, Bool.true_and]
            by_cases a1 : x3 = 1
            · rw [if_pos a1, may_j2 k _ _ _ _ _ _ _ _ (fun _ => by omega)]; simp [a1]
            · rw [if_neg a1]
              by_cases a2 : x3 = 2
              · rw [if_pos a2, may_j2 k _ _ _ _ _ _ _ _ (fun _ => by omega)]; simp [a2]
              · rw [if_neg a2]
                by_cases a3 : x3 = 4
                · rw [if_pos a3, may_j2 k _ _ _ _ _ _ _ _ (fun _ => by omega)]; simp [a3]
                · rw [if_neg a3]
                  by_cases a4 : x3 = 8
                  · rw [may_j2 k _ _ _ _ _ _ _ _ (fun _ => by omega)]; simp [a4]
                  · rw [may_j2 k (x3 != 8) _ _ _ _ _ _ _ (fun h => absurd (by simpa using h) a4)]; simp [a1, a2, a3, a4]
        by_cases c3 : x1 = 3
        · rw [if_pos c3, key]; simp [c3]
        · rw [if_neg c3, key]
          by_cases c4 : x1 = 4
          · simp [c4]
          · have : (x1 != 4) = true := by simp [c4]
            simp [this, c3, c4]
theorem may_ev (t : S50) : Ev (fun k => rule_may.f k t.f0 t.f1 t.f2 t.f3 t.f4 t.f5 t.f6) (mayB t) := Ev.eq_ 3 (fun k => may_eq k t)
end Go.Proofs.YtighficpbplkhaaDoor.Pure

/- Chapter 18, plain: tables: how large, in memory of their own, alike; their check. No conditions but the ones each theorem names. -/
namespace Go.Proofs.YtighficpbplkhaaDoor.Pure
open Go.RowKit Go.Proofs.YtighficpbplkhaaDoorW.PrintWords Go.Proofs.YtighficpbplkhaaDoorW.PrintLast Go.Proofs.YtighficpbplkhaaDoorW.PrintMore Go.Proofs.YtighficpbplkhaaDoor.P
set_option linter.unusedVariables false
set_option linter.unusedSimpArgs false

theorem drop_get {α : Type} {l : List α} {i : Nat} (h : i < l.length) : l.drop i = l[i] :: l.drop (i + 1) := List.drop_eq_getElem_cons h
theorem rd53 {l : List S53} {i : Nat} (h : i < l.length) : rd_T53 l (i : Int) = l[i] := by simp [rd_T53, List.getD, List.getElem?_eq_getElem h]
theorem rd46 {l : List S46} {i : Nat} (h : i < l.length) : rd_T46 l (i : Int) = l[i] := by simp [rd_T46, List.getD, List.getElem?_eq_getElem h]
theorem rd50 {l : List S50} {i : Nat} (h : i < l.length) : rd_T50 l (i : Int) = l[i] := by simp [rd_T50, List.getD, List.getElem?_eq_getElem h]
theorem rd55 {l : List S55} {i : Nat} (h : i < l.length) : rd_T55 l (i : Int) = l[i] := by simp [rd_T55, List.getD, List.getElem?_eq_getElem h]
theorem ws {i : Nat} (h : i < 4611686018427387904) : wrap64 ((i : Int) + 1) = ((i + 1 : Nat) : Int) := by unfold wrap64; omega
def Bytes (p : List Int) : Prop := p.length ≤ 140737488351232 ∧ ∀ b ∈ p, 0 ≤ b ∧ b ≤ 255
def Fits (l : List S53) : Prop := l.length < 4611686018427387904 ∧ ∀ z ∈ l, z.f0.length < 4611686018427387904
def Small (l : List S46) : Prop := l.length ≤ 400 ∧ ∀ z ∈ l, z.f0.length ≤ 400

/-! how large -/
theorem large_l0 (l : List S46) (hl : l.length ≤ 140737488351232) (hz : ∀ z ∈ l, z.f0.length ≤ 140737488351232) : ∀ (n i : Nat) (x : Int), i + n = l.length → 0 ≤ x → x ≤ 281474976710656 → (l.length : Int) ≤ x →
    (∀ j, (h : j < l.length) → j < i → ((l[j].f0.length : Nat) : Int) ≤ x) → ∃ b, Ev (fun k => stockadelaw18_large.l0 k l x i) b ∧ (b = false → Small l) := by
  intro n
  induction n with
  | zero =>
    intro i x hi h0 h1 h2 h3
    refine ⟨decide (x > 400), Ev.step_ (g := fun _ => some (decide (x > 400))) (fun K => ?_) Ev.pure, fun hb => ?_⟩
    · rw [stockadelaw18_large.l0, if_neg (by omega)]
    · have hx : x ≤ 400 := by simpa using hb
      refine ⟨by omega, fun z hz' => ?_⟩
      obtain ⟨j, hj, rfl⟩ := List.getElem_of_mem hz'
      have := h3 j hj (by omega)
      omega
  | succ n ih =>
    intro i x hi h0 h1 h2 h3
    have hil : i < l.length := by omega
    by_cases hx : x ≤ 400
    · have hzi := hz l[i] (List.getElem_mem hil)
      have e1 : wrap64 (x + ((l[i].f0.length : Nat) : Int)) = x + ((l[i].f0.length : Nat) : Int) := w64 (by omega) (by omega)
      obtain ⟨b, hb, hs⟩ := ih (i + 1) (x + ((l[i].f0.length : Nat) : Int)) (by omega) (by omega) (by omega) (by omega) (fun j hj hji => by
        by_cases hji' : j < i
        · have := h3 j hj hji'; omega
        · obtain rfl : j = i := by omega
          omega)
      refine ⟨b, Ev.step_ (fun K => ?_) hb, hs⟩
      rw [stockadelaw18_large.l0, if_pos (by omega), if_pos hx, if_pos (by omega), rd46 hil, e1, ws (by omega)]
    · refine ⟨true, Ev.step_ (g := fun _ => some true) (fun K => ?_) Ev.pure, fun h => by simp at h⟩
      rw [stockadelaw18_large.l0, if_pos (by omega), if_neg hx]
      have : x > 400 := by omega
      simp [this]
theorem large_ev (l : List S46) (hl : l.length ≤ 140737488351232) (hz : ∀ z ∈ l, z.f0.length ≤ 140737488351232) : ∃ b, Ev (fun k => stockadelaw18_large.f k l) b ∧ (b = false → Small l) :=
  large_l0 l hl hz l.length 0 l.length (by omega) (by omega) (by omega) (by omega) (fun j _ h => by omega)

/-! a table of one's own -/
theorem map_snoc {α β : Type} (f : α → β) {l : List α} {i : Nat} (h : i < l.length) : (l.take i).map f ++ [f l[i]] = (l.take (i + 1)).map f := by
  rw [List.take_succ_eq_append_getElem h, List.map_append]; rfl
theorem table_l1 (l : List S46) (hs : Small l) (i : Nat) (hi : i < l.length) (x3 : List S53) (h3 : x3.length ≤ 400) (r : List S53) (hr : Ev (fun k => stockadelaw18_Table.l0 k l (x3 ++ [tr l[i]]) (wrap64 ((i : Int) + 1))) r) :
    ∀ (n j : Nat), j + n = l[i].f0.length → Ev (fun k => stockadelaw18_Table.l1 k l x3 i j ((l[i].f0.take j).map tt) l[i].f1) r := by
  intro n
  have hlen := hs.2 l[i] (List.getElem_mem hi)
  induction n with
  | zero =>
    intro j hj
    refine Ev.step_ (fun K => ?_) hr
    rw [stockadelaw18_Table.l1, if_pos (by omega), if_pos (by omega), rd46 hi, if_neg (by omega), if_pos (by omega), List.take_of_length_le (by omega)]
    rfl
  | succ n ih =>
    intro j hj
    have hjl : j < l[i].f0.length := by omega
    refine Ev.step_ (fun K => ?_) (ih (j + 1) (by omega))
    rw [stockadelaw18_Table.l1, if_pos (by omega), if_pos (by omega), rd46 hi, if_pos (by omega), if_pos (by omega), rd55 hjl]
    simp only [stockadelaw18_Test.f, Option.bind_some]
    rw [if_pos (by rw [List.length_map, List.length_take]; omega), ws (by omega), ← map_snoc tt hjl]
    rfl
theorem table_l0 (l : List S46) (hs : Small l) : ∀ (n i : Nat), i + n = l.length → Ev (fun k => stockadelaw18_Table.l0 k l ((l.take i).map tr) i) (l.map tr) := by
  intro n
  have := hs.1
  induction n with
  | zero =>
    intro i hi
    refine Ev.step_ (g := fun _ => some (l.map tr)) (fun K => ?_) Ev.pure
    rw [stockadelaw18_Table.l0, if_neg (by omega), List.take_of_length_le (by omega)]
  | succ n ih =>
    intro i hi
    have hil : i < l.length := by omega
    refine Ev.step_ (g := fun k => stockadelaw18_Table.l1 k l ((l.take i).map tr) i 0 [] l[i].f1) (fun K => ?_) ?_
    · rw [stockadelaw18_Table.l0, if_pos (by omega), if_pos (by omega), rd46 hil]
    · have h := ih (i + 1) (by omega)
      rw [← map_snoc tr hil, ← ws (by omega)] at h
      exact table_l1 l hs i hil _ (by rw [List.length_map, List.length_take]; omega) _ h l[i].f0.length 0 (by omega)
theorem table_ev (l : List S46) (hs : Small l) : Ev (fun k => stockadelaw18_Table.f k l) (l.map tr) := table_l0 l hs l.length 0 (by omega)

/-! which rule may not be, and why -/
def chkV : List S53 → Int → Int × Int
  | [], _ => (0, 0)
  | r :: l, i => if r.f0.length > 8 then (i, 3) else if r.f0.all mayB = true then chkV l (i + 1) else (i, 1)
def checkV (l : List S53) : Int × Int := if l.length > 32 then (0, 3) else chkV l 0
theorem check_l1 (l : List S53) (hl : l.length ≤ 32) (i : Nat) (ts : List S50) (hts : ts.length ≤ 8) (x4 : Int) (r : Int × Int) (hr : Ev (fun k => rule_Check.l0 k l l.length (wrap64 ((i : Int) + 1))) r) :
    ∀ (n j : Nat), j + n = ts.length → Ev (fun k => rule_Check.l1 k x4 l l.length i ts ts.length j) (if (ts.drop j).all mayB = true then r else (x4, 1)) := by
  intro n
  induction n with
  | zero =>
    intro j hj
    refine Ev.step_ (g := fun k => rule_Check.l0 k l l.length (wrap64 ((i : Int) + 1))) (fun K => ?_) ?_
    · rw [rule_Check.l1, if_neg (by omega)]
    · rw [List.drop_eq_nil_of_le (by omega)]; simpa using hr
  | succ n ih =>
    intro j hj
    have hjl : j < ts.length := by omega
    have h := ih (j + 1) (by omega)
    refine Ev.step_ (g := fun k => (rule_may.f k ts[j].f0 ts[j].f1 ts[j].f2 ts[j].f3 ts[j].f4 ts[j].f5 ts[j].f6).bind fun t109 => if t109 = true then rule_Check.l1 k x4 l l.length i ts ts.length ((j + 1 : Nat) : Int) else some (x4, 1)) (fun K => ?_) (Ev.bind_ (may_ev ts[j]) ?_)
    · rw [rule_Check.l1, if_pos (by omega), if_pos (by omega), if_pos (by omega), rd50 hjl, ws (by omega)]
    · rw [drop_get hjl, List.all_cons]
      cases hm : mayB ts[j] with
      | true => simpa using h
      | false => simpa using Ev.pure
theorem check_l0 (l : List S53) (hl : l.length ≤ 32) : ∀ (n i : Nat), i + n = l.length → Ev (fun k => rule_Check.l0 k l l.length i) (chkV (l.drop i) i) := by
  intro n
  induction n with
  | zero =>
    intro i hi
    refine Ev.step_ (g := fun _ => some (0, 0)) (fun K => ?_) ?_
    · rw [rule_Check.l0, if_neg (by omega)]
    · rw [List.drop_eq_nil_of_le (by omega)]; exact Ev.pure
  | succ n ih =>
    intro i hi
    have hil : i < l.length := by omega
    have h := ih (i + 1) (by omega)
    rw [drop_get hil, chkV]
    by_cases h8 : l[i].f0.length > 8
    · rw [if_pos h8]
      refine Ev.step_ (g := fun _ => some ((i : Int), 3)) (fun K => ?_) Ev.pure
      rw [rule_Check.l0, if_pos (by omega), if_pos (by omega), if_pos (by omega), rd53 hil, if_pos (by omega)]
    · rw [if_neg h8]
      refine Ev.step_ (g := fun k => rule_Check.l1 k i l l.length i l[i].f0 l[i].f0.length 0) (fun K => ?_) ?_
      · rw [rule_Check.l0, if_pos (by omega), if_pos (by omega), if_pos (by omega), rd53 hil, if_neg (by omega)]
      · have h' : Ev (fun k => rule_Check.l0 k l l.length (wrap64 ((i : Int) + 1))) (chkV (l.drop (i + 1)) ((i : Int) + 1)) := by
          rw [ws (by omega)]; simpa using h
        have := check_l1 l hl i l[i].f0 (by omega) i _ h' l[i].f0.length 0 (by omega)
        simpa using this
theorem check_ev (l : List S53) : Ev (fun k => rule_Check.f k l) (checkV l) := by
  unfold checkV
  by_cases h : l.length > 32
  · rw [if_pos h]
    refine Ev.eqn (g := fun _ => some (0, 3)) (fun K => ?_) Ev.pure
    unfold rule_Check.f; rw [if_pos (by omega)]
  · rw [if_neg h]
    refine Ev.eqn (g := fun k => rule_Check.l0 k l l.length 0) (fun K => ?_) (by simpa using check_l0 l (by omega) l.length 0 (by omega))
    unfold rule_Check.f; rw [if_neg (by omega)]
/-- What a table that is checked holds. -/
theorem chk_ok : ∀ (l : List S53) (i : Int), (chkV l i).2 = 0 → ∀ r ∈ l, r.f0.length ≤ 8 ∧ ∀ t ∈ r.f0, mayB t = true := by
  intro l
  induction l with
  | nil => intro i _ r hr; simp at hr
  | cons x l ih =>
    intro i h r hr
    rw [chkV] at h
    by_cases h8 : x.f0.length > 8
    · rw [if_pos h8] at h; simp at h
    · rw [if_neg h8] at h
      by_cases ha : x.f0.all mayB = true
      · rw [if_pos ha] at h
        rcases List.mem_cons.1 hr with rfl | hr
        · exact ⟨by omega, fun t ht => List.all_eq_true.1 ha t ht⟩
        · exact ih _ h r hr
      · rw [if_neg ha] at h; simp at h
theorem check_ok {l : List S53} (h : (checkV l).2 = 0) : l.length ≤ 32 ∧ ∀ r ∈ l, r.f0.length ≤ 8 ∧ ∀ t ∈ r.f0, mayB t = true := by
  unfold checkV at h
  by_cases h32 : l.length > 32
  · rw [if_pos h32] at h; simp at h
  · rw [if_neg h32] at h; exact ⟨by omega, chk_ok l 0 h⟩
theorem ok_chk : ∀ (l : List S53) (i : Int), (∀ r ∈ l, r.f0.length ≤ 8 ∧ ∀ t ∈ r.f0, mayB t = true) → chkV l i = (0, 0) := by
  intro l
  induction l with
  | nil => intro i _; rfl
  | cons x l ih =>
    intro i h
    have h1 := h x List.mem_cons_self
    rw [chkV, if_neg (by omega), if_pos (List.all_eq_true.2 h1.2)]
    exact ih _ (fun r hr => h r (List.mem_cons_of_mem _ hr))
theorem ok_check {l : List S53} (hl : l.length ≤ 32) (h : ∀ r ∈ l, r.f0.length ≤ 8 ∧ ∀ t ∈ r.f0, mayB t = true) : checkV l = (0, 0) := by
  unfold checkV; rw [if_neg (by omega)]; exact ok_chk l 0 h
end Go.Proofs.YtighficpbplkhaaDoor.Pure

/- Chapter 18, plain: the rows that each law asks first. No conditions but the ones each theorem names. -/
namespace Go.Proofs.YtighficpbplkhaaDoor.Pure
open Go.RowKit Go.Proofs.YtighficpbplkhaaDoorW.PrintWords Go.Proofs.YtighficpbplkhaaDoorW.PrintLast Go.Proofs.YtighficpbplkhaaDoorW.PrintMore Go.Proofs.YtighficpbplkhaaDoor.P
set_option linter.unusedVariables false
set_option linter.unusedSimpArgs false
set_option maxRecDepth 100000

theorem wakes_300 : stockadelaw18_wakes.f 300 = some true := by kernel_rfl
theorem wakes_ev : Ev (fun k => stockadelaw18_wakes.f k) true := Ev.of (fun k => stockadelaw18_wakes.mono k) wakes_300
theorem wakes_some : Ev (fun k => (stockadelaw18_wakes.f k).bind fun t => some t) true := Ev.bind_ wakes_ev Ev.pure
theorem okL.fits {l : List S46} (h : okL l) : Fits (l.map tr) := ⟨by have := h.1; rw [List.length_map]; omega, fun z hz => by
  obtain ⟨y, hy, rfl⟩ := List.mem_map.1 hz
  have := (h.2 y hy).1
  simp only [tr, List.length_map]; omega⟩
theorem okL.large {l : List S46} (h : okL l) : ∃ b, Ev (fun k => stockadelaw18_large.f k l) b ∧ (b = false → Small l) := large_ev l h.1 (fun z hz => (h.2 z hz).1)
end Go.Proofs.YtighficpbplkhaaDoor.Pure

/- Chapter 18, plain: tables that are alike. No conditions but the ones each theorem names. -/
namespace Go.Proofs.YtighficpbplkhaaDoor.Pure
open Go.RowKit Go.Proofs.YtighficpbplkhaaDoorW.PrintWords Go.Proofs.YtighficpbplkhaaDoorW.PrintLast Go.Proofs.YtighficpbplkhaaDoorW.PrintMore Go.Proofs.YtighficpbplkhaaDoor.P
set_option linter.unusedVariables false
set_option linter.unusedSimpArgs false

/-! alike -/
theorem is_l1 (l : List S46) (i : Nat) (hi : i < l.length) (hil : i < 4611686018427387904) (hlen : l[i].f0.length < 4611686018427387904) (hr : Ev (fun k => stockadelaw18_Is.l0 k (l.map tr) l (wrap64 ((i : Int) + 1))) true) :
    ∀ (n j : Nat), j + n = l[i].f0.length → Ev (fun k => stockadelaw18_Is.l1 k (l.map tr) l i j) true := by
  intro n
  have e1 : rd_T53 (l.map tr) (i : Int) = tr l[i] := by rw [rd53 (by simpa using hi)]; simp
  have e2 : (tr l[i]).f0.length = l[i].f0.length := by simp [tr]
  induction n with
  | zero =>
    intro j hj
    refine Ev.step_ (fun K => ?_) hr
    rw [stockadelaw18_Is.l1, if_pos (by omega), if_pos (by rw [List.length_map]; omega), e1, e2, if_neg (by omega)]
  | succ n ih =>
    intro j hj
    have hjl : j < l[i].f0.length := by omega
    refine Ev.step_ (fun K => ?_) (ih (j + 1) (by omega))
    have e3 : rd_T50 (tr l[i]).f0 (j : Int) = tt l[i].f0[j] := by rw [rd50 (by omega)]; simp [tr]
    rw [stockadelaw18_Is.l1, if_pos (by omega), if_pos (by rw [List.length_map]; omega), e1, e2, if_pos (by omega), if_pos (by omega), if_pos (by omega), rd46 hi, if_pos (by omega), rd55 hjl, e3, ws (by omega)]
    simp [stockadelaw18_Test.f, tt]
theorem is_l0 (l : List S46) (hl : l.length < 4611686018427387904) (hz : ∀ z ∈ l, z.f0.length < 4611686018427387904) : ∀ (n i : Nat), i + n = l.length → Ev (fun k => stockadelaw18_Is.l0 k (l.map tr) l i) true := by
  intro n
  induction n with
  | zero =>
    intro i hi
    refine Ev.step_ (g := fun _ => some true) (fun K => ?_) Ev.pure
    rw [stockadelaw18_Is.l0, if_neg (by rw [List.length_map]; omega)]
  | succ n ih =>
    intro i hi
    have hil : i < l.length := by omega
    have h := ih (i + 1) (by omega)
    rw [← ws (by omega)] at h
    have e1 : rd_T53 (l.map tr) (i : Int) = tr l[i] := by rw [rd53 (by simpa using hil)]; simp
    have e2 : (tr l[i]).f0.length = l[i].f0.length := by simp [tr]
    refine Ev.step_ (g := fun k => stockadelaw18_Is.j1 k (l.map tr) l i false) (fun K => ?_) (Ev.step_ (g := fun k => stockadelaw18_Is.l1 k (l.map tr) l i 0) (fun K => ?_) (is_l1 l i hil (by omega) (hz _ (List.getElem_mem hil)) h l[i].f0.length 0 (by omega)))
    · rw [stockadelaw18_Is.l0, if_pos (by rw [List.length_map]; omega), if_pos (by omega), if_pos (by omega), e1, rd46 hil, if_pos (show (tr l[i]).f1 = l[i].f1 from rfl), e2]
      simp
    · rw [stockadelaw18_Is.j1]; simp
theorem is_ev (l : List S46) (hl : l.length < 4611686018427387904) (hz : ∀ z ∈ l, z.f0.length < 4611686018427387904) : Ev (fun k => stockadelaw18_Is.f k (l.map tr) l) true := by
  refine Ev.eqn (g := fun k => stockadelaw18_Is.l0 k (l.map tr) l 0) (fun K => ?_) (is_l0 l hl hz l.length 0 (by omega))
  unfold stockadelaw18_Is.f
  rw [if_pos (by rw [List.length_map])]

theorem Small.is {l : List S46} (h : Small l) : Ev (fun k => stockadelaw18_Is.f k (l.map tr) l) true := is_ev l (by have := h.1; omega) (fun z hz => by have := h.2 z hz; omega)
end Go.Proofs.YtighficpbplkhaaDoor.Pure

/- Chapter 18, plain: the text of a test, of a rule, of a table. No conditions but the ones each theorem names. -/
namespace Go.Proofs.YtighficpbplkhaaDoor.Pure
open Go.RowKit Go.Proofs.YtighficpbplkhaaDoorW.PrintWords Go.Proofs.YtighficpbplkhaaDoorW.PrintLast Go.Proofs.YtighficpbplkhaaDoorW.PrintMore Go.Proofs.YtighficpbplkhaaDoor.P
set_option linter.unusedVariables false
set_option linter.unusedSimpArgs false

/-! texts as lists -/
theorem mk_app (a b : List UInt8) : (⟨a.toArray⟩ : ByteArray) ++ ⟨b.toArray⟩ = ⟨(a ++ b).toArray⟩ := by
  have : (ByteArray.mk a.toArray ++ ByteArray.mk b.toArray).data = (a ++ b).toArray := by simp
  cases h : (ByteArray.mk a.toArray ++ ByteArray.mk b.toArray)
  rw [h] at this
  exact congrArg ByteArray.mk this
theorem mk_size (a : List UInt8) : (⟨a.toArray⟩ : ByteArray).size = a.length := by simp [ByteArray.size]
theorem mk_list (a : List UInt8) : (⟨a.toArray⟩ : ByteArray).toList = a := by rw [Lib.toList_data]
theorem eq_mk (s : ByteArray) : s = ⟨s.data.toList.toArray⟩ := rfl
def dg (n : Int) : List UInt8 := Lib.decDigits n.toNat
theorem dg_len {n : Int} (h0 : 0 ≤ n) (h1 : n < 18446744073709551616) : 1 ≤ (dg n).length ∧ (dg n).length ≤ 20 := by
  unfold dg
  rw [Lib.decDigits_length]
  refine ⟨Lib.nDigits_pos _, ?_⟩
  refine Decidable.byContradiction fun h => ?_
  have h2 : 10 ^ 20 ≤ n.toNat := by
    have := Lib.nDigits_unique
    refine Decidable.byContradiction fun h3 => h ?_
    clear h
    have key : ∀ (k u : Nat), u < 10 ^ (k + 1) → Lib.nDigits u ≤ k + 1 := by
      intro k
      induction k with
      | zero => intro u hu; rw [Lib.nDigits_small (by simpa using hu)]; omega
      | succ k ih =>
        intro u hu
        by_cases hs : u < 10
        · rw [Lib.nDigits_small hs]; omega
        · rw [Lib.nDigits_big hs]
          have := ih (u / 10) (by rw [Nat.pow_succ] at hu; omega)
          omega
    exact key 19 n.toNat (by omega)
  omega
theorem format_eq {n : Int} (h0 : 0 ≤ n) (h1 : n < 18446744073709551616) : rule_digits.f n = some ⟨(dg n).toArray⟩ := by
  unfold rule_digits.f strconv_FormatUint_65.f
  rw [if_pos ⟨rfl, h0, h1⟩]; rfl
theorem itoa_eq {n : Int} (h0 : 0 ≤ n) (h1 : n ≤ 9223372036854775807) : strconv_Itoa_63.f n = some ⟨(dg n).toArray⟩ := by
  unfold strconv_Itoa_63.f dg
  rw [if_pos ⟨by omega, h1⟩]
  unfold Lib.itoa
  rw [if_neg (by omega)]

/-! a test -/
def wordL (k : Int) : List UInt8 := if k = 1 then [108, 101, 110] else if k = 2 then [105, 110] else if k = 3 then [] else [112, 97, 115, 116, 32]
theorem wordOf_eq (k : Int) : wordOf k = ⟨(wordL k).toArray⟩ := by
  unfold wordOf wordL
  split
  · rfl
  · split
    · rfl
    · split <;> rfl
def maskL (t : S50) : List UInt8 := if t.f4 = fullV t.f3 then [] else 47 :: dg t.f4
def headL (t : S50) : List UInt8 := wordL t.f1 ++ (if t.f1 ≥ 3 then 117 :: (dg (8 * t.f3) ++ 64 :: (dg t.f2 ++ maskL t)) else [])
def notL (b : Bool) : List UInt8 := if b = true then [110, 111, 116, 32] else []
def spanL (t : S50) : List UInt8 := dg t.f5 ++ 46 :: 46 :: dg t.f6
def textL (t : S50) : List UInt8 := notL t.f0 ++ (headL t ++ 32 :: spanL t)
/-- A test that may be (its lower bound is no less than 0). -/
def Good (t : S50) : Prop := mayB t = true ∧ 0 ≤ t.f5
theorem full_le {s : Int} (h0 : 1 ≤ s) (h1 : s ≤ 8) : 1 ≤ fullV s ∧ fullV s ≤ 18446744073709551615 := by
  have : s = 1 ∨ s = 2 ∨ s = 3 ∨ s = 4 ∨ s = 5 ∨ s = 6 ∨ s = 7 ∨ s = 8 := by omega
  rcases this with rfl | rfl | rfl | rfl | rfl | rfl | rfl | rfl <;> decide +kernel
theorem Good.ranges {t : S50} (h : Good t) : 0 ≤ t.f5 ∧ t.f5 ≤ t.f6 ∧ t.f6 < 18446744073709551616 ∧ (t.f1 = 1 ∨ t.f1 = 2 ∨ (t.f1 = 3 ∨ t.f1 = 4) ∧ (t.f3 = 1 ∨ t.f3 = 2 ∨ t.f3 = 4 ∨ t.f3 = 8) ∧ 0 ≤ t.f2 ∧ t.f2 ≤ 255 ∧ 1 ≤ t.f4 ∧ t.f4 ≤ fullV t.f3 ∧ t.f4 < 18446744073709551616) := by
  obtain ⟨hm, h5⟩ := h
  obtain ⟨h56, hk | ⟨h3, hs, ha, hb, hc, hd, he⟩⟩ := mayP hm
  · exact ⟨h5, h56, by omega, by omega⟩
  · have := full_le (s := t.f3) (by omega) (by omega)
    exact ⟨h5, h56, by omega, .inr (.inr ⟨h3, hs, ha, hb, hc, hd, by omega⟩)⟩
theorem notL_len (b : Bool) : (notL b).length ≤ 4 := by cases b <;> simp [notL]
theorem text_j0 (k : Nat) (t : S50) (h : Good t) (x : List UInt8) (hx : x.length ≤ 4) : rule_text.j0 (k + 1) ⟨x.toArray⟩ t.f0 t.f1 t.f2 t.f3 t.f4 t.f5 t.f6 = some ⟨(x ++ (headL t ++ 32 :: spanL t)).toArray⟩ := by
  obtain ⟨r5, r56, r6, hk⟩ := h.ranges
  have d5 := dg_len r5 (by omega)
  have d6 := dg_len (n := t.f6) (by omega) r6
  rw [rule_text.j0]
  simp only [rule_of.f, Option.bind_some, wordOf_eq]
  have kinds : t.f1 < 3 ∨ (t.f1 = 3 ∨ t.f1 = 4) := by omega
  rcases kinds with k12 | k34
  · have hw : (wordL t.f1).length ≤ 5 := by unfold wordL; split; simp; split; simp; split <;> simp
    have hn : ¬ t.f1 ≥ 3 := by omega
    rw [if_pos (by simp only [mk_size]; omega), if_neg hn, mk_app, if_pos (by simp only [mk_size, List.length_append]; omega), format_eq r5 (by omega)]
    have e32 : (⟨#[32]⟩ : ByteArray) = ⟨([32] : List UInt8).toArray⟩ := rfl
    have e46 : (⟨#[46, 46]⟩ : ByteArray) = ⟨([46, 46] : List UInt8).toArray⟩ := rfl
    simp only [Option.bind_some, e32, e46, mk_app]
    rw [if_pos (by simp only [mk_size, List.length_append, List.length_cons, List.length_nil]; omega), if_pos (by simp only [mk_size, List.length_append, List.length_cons, List.length_nil]; omega), format_eq (by omega) r6]
    simp only [Option.bind_some, mk_app]
    rw [if_pos (by simp only [mk_size, List.length_append, List.length_cons, List.length_nil]; omega)]
    simp only [headL, if_neg hn, spanL, List.append_nil, List.append_assoc, List.cons_append, List.nil_append]
  · obtain ⟨_, hs, ha, hb, hc, hd, he⟩ := hk.resolve_left (by omega) |>.resolve_left (by omega)
    have hw : (wordL t.f1).length ≤ 5 := by unfold wordL; split; simp; split; simp; split <;> simp
    have h3 : t.f1 ≥ 3 := by omega
    have w8 : wrap64 (8 * t.f3) = 8 * t.f3 := w64 (by omega) (by omega)
    have d8 := dg_len (n := 8 * t.f3) (by omega) (by omega)
    have d2 := dg_len (n := t.f2) (by omega) (by omega)
    have d4 := dg_len (n := t.f4) (by omega) he
    have e32 : (⟨#[32]⟩ : ByteArray) = ⟨([32] : List UInt8).toArray⟩ := rfl
    have e46 : (⟨#[46, 46]⟩ : ByteArray) = ⟨([46, 46] : List UInt8).toArray⟩ := rfl
    have e47 : (⟨#[47]⟩ : ByteArray) = ⟨([47] : List UInt8).toArray⟩ := rfl
    have e117 : (⟨#[117]⟩ : ByteArray) = ⟨([117] : List UInt8).toArray⟩ := rfl
    have e64 : (⟨#[64]⟩ : ByteArray) = ⟨([64] : List UInt8).toArray⟩ := rfl
    rw [if_pos (by simp only [mk_size]; omega), if_pos h3, w8, itoa_eq (by omega) (by omega)]
    simp only [Option.bind_some, e117, e64, mk_app]
    rw [if_pos (by simp only [mk_size]; omega), if_pos (by simp only [mk_size, List.length_append, List.length_cons, List.length_nil]; omega), itoa_eq (by omega) (by omega)]
    simp only [Option.bind_some, mk_app]
    rw [if_pos (by simp only [mk_size, List.length_append, List.length_cons, List.length_nil]; omega), if_pos (by simp only [mk_size, List.length_append, List.length_cons, List.length_nil]; omega), full_eq (by omega) (by omega)]
    simp only [Option.bind_some]
    by_cases hm : t.f4 = fullV t.f3
    · rw [if_pos hm, if_pos (by simp only [mk_size, List.length_append, List.length_cons, List.length_nil]; omega), format_eq r5 (by omega)]
      simp only [Option.bind_some, e32, e46, mk_app]
      rw [if_pos (by simp only [mk_size, List.length_append, List.length_cons, List.length_nil]; omega), if_pos (by simp only [mk_size, List.length_append, List.length_cons, List.length_nil]; omega), format_eq (by omega) r6]
      simp only [Option.bind_some, mk_app]
      rw [if_pos (by simp only [mk_size, List.length_append, List.length_cons, List.length_nil]; omega)]
      simp only [headL, maskL, if_pos h3, if_pos hm, spanL, List.append_nil, List.append_assoc, List.cons_append, List.nil_append]
    · rw [if_neg hm, format_eq (by omega) he]
      simp only [Option.bind_some, e32, e46, e47, mk_app]
      rw [if_pos (by simp only [mk_size]; omega), if_pos (by simp only [mk_size, List.length_append, List.length_cons, List.length_nil]; omega), if_pos (by simp only [mk_size, List.length_append, List.length_cons, List.length_nil]; omega), format_eq r5 (by omega)]
      simp only [Option.bind_some, mk_app]
      rw [if_pos (by simp only [mk_size, List.length_append, List.length_cons, List.length_nil]; omega), if_pos (by simp only [mk_size, List.length_append, List.length_cons, List.length_nil]; omega), format_eq (by omega) r6]
      simp only [Option.bind_some, mk_app]
      rw [if_pos (by simp only [mk_size, List.length_append, List.length_cons, List.length_nil]; omega)]
      simp only [headL, maskL, if_pos h3, if_neg hm, spanL, List.append_nil, List.append_assoc, List.cons_append, List.nil_append]
theorem text_eq (k : Nat) (t : S50) (h : Good t) : rule_text.f (k + 1) t.f0 t.f1 t.f2 t.f3 t.f4 t.f5 t.f6 = some ⟨(textL t).toArray⟩ := by
  unfold rule_text.f
  cases hn : t.f0 with
  | true =>
    rw [if_pos rfl]
    have := text_j0 k t h [110, 111, 116, 32] (by simp)
    rw [hn] at this
    rw [this]
    unfold textL notL
    rw [hn]; rfl
  | false =>
    rw [if_neg (by simp)]
    have := text_j0 k t h [] (by simp)
    rw [hn] at this
    rw [this]
    unfold textL notL
    rw [hn]; rfl
theorem text_ev (t : S50) (h : Good t) : Ev (fun k => rule_text.f k t.f0 t.f1 t.f2 t.f3 t.f4 t.f5 t.f6) ⟨(textL t).toArray⟩ := Ev.eq_ 1 (fun k => text_eq k t h)
theorem textL_len (t : S50) (h : Good t) : 4 ≤ (textL t).length ∧ (textL t).length ≤ 200 := by
  obtain ⟨r5, r56, r6, hk⟩ := h.ranges
  have d5 := dg_len r5 (by omega)
  have d6 := dg_len (n := t.f6) (by omega) r6
  have hn := notL_len t.f0
  have hw : (wordL t.f1).length ≤ 5 := by unfold wordL; split; simp; split; simp; split <;> simp
  have hh : (headL t).length ≤ 80 := by
    unfold headL
    by_cases h3 : t.f1 ≥ 3
    · obtain ⟨_, hs, ha, hb, hc, hd, he⟩ := hk.resolve_left (by omega) |>.resolve_left (by omega)
      have d8 := dg_len (n := 8 * t.f3) (by omega) (by omega)
      have d2 := dg_len (n := t.f2) (by omega) (by omega)
      have d4 := dg_len (n := t.f4) (by omega) he
      have dm : (maskL t).length ≤ 21 := by unfold maskL; split <;> simp <;> omega
      rw [if_pos h3]
      simp only [List.length_append, List.length_cons]; omega
    · rw [if_neg h3]; simp; omega
  unfold textL spanL
  simp only [List.length_append, List.length_cons]
  omega

/-! a rule -/
def testsL (ts : List S50) : List UInt8 := if ts = [] then [97, 110, 121] else Lib.join (ts.map textL) [44, 32]
def arrow : List UInt8 := [32, 45, 62, 32]
def lineL (ts : List S50) (v : Int) : List UInt8 := testsL ts ++ (arrow ++ dg v)
theorem tail_len : ∀ (r : List S50), (∀ t ∈ r, Good t) → (Lib.joinTail [44, 32] (r.map textL)).length ≤ 202 * r.length := by
  intro r
  induction r with
  | nil => intro _; simp [Lib.joinTail]
  | cons t r ih =>
    intro h
    have h1 := (textL_len t (h t List.mem_cons_self)).2
    have h2 := ih (fun x hx => h x (List.mem_cons_of_mem _ hx))
    unfold Lib.joinTail at h2 ⊢
    simp only [List.map_cons, List.flatten_cons, List.length_append, List.length_cons, List.length_nil] at h2 ⊢
    omega
theorem testsL_len (ts : List S50) (h8 : ts.length ≤ 8) (h : ∀ t ∈ ts, Good t) : (testsL ts).length ≤ 1800 := by
  unfold testsL
  split
  · simp
  · cases ts with
    | nil => simp [Lib.join_nil]
    | cons t r =>
      rw [List.map_cons, Lib.join_cons, List.length_append]
      have h1 := (textL_len t (h t List.mem_cons_self)).2
      have h2 := tail_len r (fun x hx => h x (List.mem_cons_of_mem _ hx))
      simp only [List.length_cons] at h8
      omega
theorem lineL_len (ts : List S50) (v : Int) (h8 : ts.length ≤ 8) (h : ∀ t ∈ ts, Good t) (h0 : 0 ≤ v) (h1 : v < 4294967296) : (lineL ts v).length ≤ 1900 := by
  have := testsL_len ts h8 h
  have dv := dg_len (n := v) (by omega) (by omega)
  unfold lineL arrow
  simp only [List.length_append, List.length_cons, List.length_nil]
  omega
theorem line_l0 (ts : List S50) (h8 : ts.length ≤ 8) (h : ∀ t ∈ ts, Good t) (v : Int) (h0 : 0 ≤ v) (h1 : v < 4294967296) : ∀ (n i : Nat), i + n = ts.length → Ev (fun k => rule_line.l0 k ((ts.take i).map fun t => (⟨(textL t).toArray⟩ : ByteArray)) ts ts.length i ts v) ⟨(lineL ts v).toArray⟩ := by
  intro n
  have hl := testsL_len ts h8 h
  have dv := dg_len (n := v) (by omega) (by omega)
  have wv : IntKind.u64.wrap v = v := by
    have : IntKind.u64.wrap v = v % 18446744073709551616 := by simp [IntKind.wrap, IntKind.bits, IntKind.signed]
    rw [this]; omega
  have ea : (⟨#[32, 45, 62, 32]⟩ : ByteArray) = ⟨arrow.toArray⟩ := rfl
  have es : (⟨#[44, 32]⟩ : ByteArray).data.toList = [44, 32] := rfl
  induction n with
  | zero =>
    intro i hi
    refine Ev.step_ (g := fun _ => some ⟨(lineL ts v).toArray⟩) (fun K => ?_) Ev.pure
    rw [rule_line.l0, if_neg (by omega), List.take_of_length_le (by omega), List.length_map, wv]
    cases ts with
    | nil =>
      rw [if_pos (show ((([] : List S50).length : Nat) : Int) = 0 from rfl), if_pos (by simp), format_eq h0 (by omega)]
      have e : strings_Join.f ([⟨#[97, 110, 121]⟩] : List ByteArray) ⟨#[44, 32]⟩ = some ⟨([97, 110, 121] : List UInt8).toArray⟩ := by
        unfold strings_Join.f
        simp only [List.map_cons, List.map_nil, Lib.join_one]
        rw [if_pos ⟨by simp, by simp⟩]
      simp only [List.map_nil, List.nil_append, e, Option.bind_some, ea, mk_app]
      rw [if_pos (by simp only [mk_size, List.length_cons, List.length_nil]; omega), if_pos (by unfold arrow; simp only [mk_size, List.length_append, List.length_cons, List.length_nil]; omega)]
      unfold lineL testsL
      rw [if_pos rfl, List.append_assoc]
    | cons t r =>
      have en : ¬ (((t :: r).length : Nat) : Int) = 0 := by simp only [List.length_cons]; omega
      have e : strings_Join.f ((t :: r).map fun t => (⟨(textL t).toArray⟩ : ByteArray)) ⟨#[44, 32]⟩ = some ⟨(testsL (t :: r)).toArray⟩ := by
        unfold strings_Join.f
        have em : (((t :: r).map fun t => (⟨(textL t).toArray⟩ : ByteArray)).map (·.data.toList)) = (t :: r).map textL := by
          rw [List.map_map]; rfl
        have et : testsL (t :: r) = Lib.join ((t :: r).map textL) [44, 32] := by unfold testsL; rw [if_neg (by simp)]
        rw [em, es, ← et, if_pos ⟨by rw [List.length_map]; omega, by omega⟩]
      rw [if_neg en, e, format_eq h0 (by omega)]
      simp only [Option.bind_some, ea, mk_app]
      rw [if_pos (by simp only [mk_size]; omega), if_pos (by unfold arrow; simp only [mk_size, List.length_append, List.length_cons, List.length_nil]; omega)]
      unfold lineL
      rw [List.append_assoc]
  | succ n ih =>
    intro i hi
    have hil : i < ts.length := by omega
    have nx := ih (i + 1) (by omega)
    refine Ev.step_ (g := fun k => (rule_text.f k ts[i].f0 ts[i].f1 ts[i].f2 ts[i].f3 ts[i].f4 ts[i].f5 ts[i].f6).bind fun s => rule_line.l0 k (((ts.take i).map fun t => (⟨(textL t).toArray⟩ : ByteArray)) ++ [s]) ts ts.length ((i + 1 : Nat) : Int) ts v) (fun K => ?_) (Ev.bind_ (text_ev ts[i] (h _ (List.getElem_mem hil))) ?_)
    · rw [rule_line.l0, if_pos (by omega), if_pos (by omega), if_pos (by omega), rd50 hil, ws (by omega)]
      have hlt : ((ts.take i).map fun t => (⟨(textL t).toArray⟩ : ByteArray)).length < 8796093022208 := by rw [List.length_map, List.length_take]; omega
      simp only [if_pos hlt]
    · have := map_snoc (fun t => (⟨(textL t).toArray⟩ : ByteArray)) hil
      rw [this]; exact nx
theorem line_ev (ts : List S50) (h8 : ts.length ≤ 8) (h : ∀ t ∈ ts, Good t) (v : Int) (h0 : 0 ≤ v) (h1 : v < 4294967296) : Ev (fun k => rule_line.f k ts v) ⟨(lineL ts v).toArray⟩ := line_l0 ts h8 h v h0 h1 ts.length 0 (by omega)

/-! a table -/
def Valid (r : S53) : Prop := r.f0.length ≤ 8 ∧ (∀ t ∈ r.f0, Good t) ∧ 0 ≤ r.f1 ∧ r.f1 < 4294967296
def rowL (r : S53) : List UInt8 := lineL r.f0 r.f1 ++ [10]
def printL (l : List S53) : List UInt8 := l.flatMap rowL
theorem printL_len : ∀ (l : List S53), (∀ r ∈ l, Valid r) → (printL l).length ≤ 1901 * l.length := by
  intro l
  induction l with
  | nil => intro _; simp [printL]
  | cons r l ih =>
    intro h
    obtain ⟨h8, hg, h0, h1⟩ := h r List.mem_cons_self
    have a := lineL_len r.f0 r.f1 h8 hg h0 h1
    have b := ih (fun x hx => h x (List.mem_cons_of_mem _ hx))
    unfold printL rowL at b ⊢
    simp only [List.flatMap_cons, List.length_append, List.length_cons, List.length_nil] at b ⊢
    omega
theorem print_l0 (l : List S53) (hl : l.length ≤ 32) (hv : ∀ r ∈ l, Valid r) : ∀ (n i : Nat), i + n = l.length → Ev (fun k => rule_Print.l0 k ⟨(printL (l.take i)).toArray⟩ l l.length i) (⟨(printL l).toArray⟩, 0) := by
  intro n
  induction n with
  | zero =>
    intro i hi
    refine Ev.step_ (g := fun _ => some (⟨(printL l).toArray⟩, 0)) (fun K => ?_) Ev.pure
    rw [rule_Print.l0, if_neg (by omega), List.take_of_length_le (by omega)]
  | succ n ih =>
    intro i hi
    have hil : i < l.length := by omega
    obtain ⟨h8, hg, h0, h1⟩ := hv _ (List.getElem_mem hil)
    have nx := ih (i + 1) (by omega)
    have hp := printL_len (l.take i) (fun r hr => hv r (List.mem_of_mem_take hr))
    rw [List.length_take] at hp
    have hll := lineL_len _ _ h8 hg h0 h1
    have ep : printL (l.take (i + 1)) = printL (l.take i) ++ (lineL l[i].f0 l[i].f1 ++ [10]) := by
      unfold printL
      rw [List.take_succ_eq_append_getElem hil, List.flatMap_append]
      simp [rowL]
    have e10 : (⟨#[10]⟩ : ByteArray) = ⟨([10] : List UInt8).toArray⟩ := rfl
    refine Ev.step_ (g := fun k => (rule_line.f k l[i].f0 l[i].f1).bind fun s => if (printL (l.take i)).length + s.size ≤ 140737488355328 then if ((⟨(printL (l.take i)).toArray⟩ : ByteArray) ++ s).size + 1 ≤ 140737488355328 then rule_Print.l0 k ((⟨(printL (l.take i)).toArray⟩ ++ s) ++ ⟨#[10]⟩) l l.length ((i + 1 : Nat) : Int) else none else none) (fun K => ?_) (Ev.bind_ (line_ev _ h8 hg _ h0 h1) ?_)
    · rw [rule_Print.l0, if_pos (by omega), if_pos (by omega), if_pos (by omega), rd53 hil, ws (by omega), mk_size]
    · refine Ev.eqn (fun K => ?_) nx
      rw [e10, mk_app, mk_app, mk_size, mk_size, if_pos (by omega), if_pos (by rw [List.length_append]; omega), ep, List.append_assoc]
/-- Verdicts and lower bounds are in their types' ranges. -/
def Typed (l : List S53) : Prop := ∀ r ∈ l, (0 ≤ r.f1 ∧ r.f1 < 4294967296) ∧ ∀ t ∈ r.f0, 0 ≤ t.f5
theorem valid_of {l : List S53} (ht : Typed l) (h : (checkV l).2 = 0) : l.length ≤ 32 ∧ ∀ r ∈ l, Valid r := by
  obtain ⟨h32, hr⟩ := check_ok h
  exact ⟨h32, fun r hrl => ⟨(hr r hrl).1, fun t htr => ⟨(hr r hrl).2 t htr, (ht r hrl).2 t htr⟩, (ht r hrl).1.1, (ht r hrl).1.2⟩⟩
/-- What a table's types say. -/
theorem okL.typed {l : List S46} (h : okL l) : Typed (l.map tr) := fun r hr => by
  obtain ⟨z, hz, rfl⟩ := List.mem_map.1 hr
  obtain ⟨_, ht, h0, h1⟩ := h.2 z hz
  refine ⟨⟨h0, by show z.f1 < _; omega⟩, fun t htr => ?_⟩
  obtain ⟨y, hy, rfl⟩ := List.mem_map.1 htr
  exact (ht y hy).2.2.2.2.1.1
def printV (l : List S53) : ByteArray × Int := if (checkV l).2 = 0 then (⟨(printL l).toArray⟩, 0) else (⟨#[]⟩, (checkV l).2)
theorem print_ev (l : List S53) (ht : Typed l) : Ev (fun k => rule_Print.f k l) (printV l) := by
  unfold rule_Print.f printV
  refine Ev.bind_ (check_ev l) ?_
  by_cases h : (checkV l).2 = 0
  · obtain ⟨h32, hv⟩ := valid_of ht h
    simp only [if_pos h]
    exact print_l0 l h32 hv l.length 0 (by omega)
  · simp only [if_neg h]
    exact Ev.pure
end Go.Proofs.YtighficpbplkhaaDoor.Pure

/- Chapter 18, plain: numbers and pieces of texts. No conditions but the ones each theorem names. -/
namespace Go.Proofs.YtighficpbplkhaaDoor.Pure
open Go.RowKit Go.Proofs.YtighficpbplkhaaDoorW.PrintWords Go.Proofs.YtighficpbplkhaaDoorW.PrintLast Go.Proofs.YtighficpbplkhaaDoorW.PrintMore Go.Proofs.YtighficpbplkhaaDoor.P
set_option linter.unusedVariables false
set_option linter.unusedSimpArgs false

/-! digits -/
def IsDig (c : UInt8) : Prop := 48 ≤ c.toNat ∧ c.toNat ≤ 57
theorem dig_ofNat {d : Nat} (h : d < 10) : (UInt8.ofNat (48 + d)).toNat = 48 + d := by
  rw [UInt8.toNat_ofNat']; omega
theorem dec_dig : ∀ (m n : Nat), n ≤ m → ∀ c ∈ Lib.decDigits n, IsDig c := by
  intro m
  induction m with
  | zero =>
    intro n hn c hc
    obtain rfl : n = 0 := by omega
    rw [Lib.decDigits_one (by omega)] at hc
    rw [List.mem_singleton.1 hc]
    exact ⟨by rw [dig_ofNat (by omega)]; omega, by rw [dig_ofNat (by omega)]; omega⟩
  | succ m ih =>
    intro n hn c hc
    rw [Lib.decDigits] at hc
    split at hc
    · rename_i h
      rw [List.mem_singleton.1 hc]
      exact ⟨by rw [dig_ofNat h]; omega, by rw [dig_ofNat h]; omega⟩
    · rename_i h
      rcases List.mem_append.1 hc with hc | hc
      · exact ih (n / 10) (by omega) c hc
      · rw [List.mem_singleton.1 hc]
        exact ⟨by rw [dig_ofNat (by omega)]; omega, by rw [dig_ofNat (by omega)]; omega⟩
theorem dg_dig {n : Int} : ∀ c ∈ dg n, IsDig c := dec_dig _ _ (Nat.le_refl _)
def valF (acc : Nat) (l : List UInt8) : Nat := l.foldl (fun a c => a * 10 + (c.toNat - 48)) acc
theorem valF_cons (acc : Nat) (c : UInt8) (l : List UInt8) : valF acc (c :: l) = valF (acc * 10 + (c.toNat - 48)) l := by unfold valF; rw [List.foldl_cons]
theorem valF_le : ∀ (l : List UInt8) (acc : Nat), acc ≤ valF acc l := by
  intro l
  induction l with
  | nil => intro acc; exact Nat.le_refl _
  | cons c l ih => intro acc; rw [valF_cons]; exact Nat.le_trans (by omega) (ih _)
theorem valF_dec : ∀ (m n : Nat), n ≤ m → valF 0 (Lib.decDigits n) = n := by
  intro m
  induction m with
  | zero =>
    intro n hn
    obtain rfl : n = 0 := by omega
    rw [Lib.decDigits_one (by omega)]
    show 0 * 10 + ((UInt8.ofNat (48 + 0)).toNat - 48) = 0
    rw [dig_ofNat (by omega)]
  | succ m ih =>
    intro n hn
    rw [Lib.decDigits]
    split
    · rename_i h
      show 0 * 10 + ((UInt8.ofNat (48 + n)).toNat - 48) = n
      rw [dig_ofNat h]; omega
    · rename_i h
      unfold valF
      rw [List.foldl_append]
      have := ih (n / 10) (by omega)
      unfold valF at this
      rw [this]
      show n / 10 * 10 + ((UInt8.ofNat (48 + n % 10)).toNat - 48) = n
      rw [dig_ofNat (by omega)]; omega
theorem parse_val : ∀ (l : List UInt8) (acc : Nat), (∀ c ∈ l, IsDig c) → valF acc l ≤ 18446744073709551615 → Lib.parseUintM 18446744073709551615 acc l = .ok (valF acc l) := by
  intro l
  induction l with
  | nil => intro acc _ _; rfl
  | cons c l ih =>
    intro acc hd hv
    have hc := hd c List.mem_cons_self
    rw [valF_cons] at hv ⊢
    have := valF_le l (acc * 10 + (c.toNat - 48))
    rw [Lib.parseUintM, if_pos (show 48 ≤ c.toNat ∧ c.toNat ≤ 57 from hc), if_neg (by omega), if_neg (by omega)]
    exact ih _ (fun x hx => hd x (List.mem_cons_of_mem _ hx)) hv
theorem dec_ne (n : Nat) : Lib.decDigits n ≠ [] := fun h => by
  have := Lib.nDigits_pos n
  rw [← Lib.decDigits_length, h] at this
  simp at this
theorem parse_dg {n : Int} (h0 : 0 ≤ n) (h1 : n < 18446744073709551616) : Lib.parseUintB 64 (dg n) = .ok n.toNat := by
  unfold Lib.parseUintB
  rw [if_neg (show ¬ dg n = [] from dec_ne _)]
  have e := valF_dec n.toNat n.toNat (Nat.le_refl _)
  have := parse_val (dg n) 0 dg_dig (by unfold dg; rw [e]; omega)
  rw [show 2 ^ 64 - 1 = 18446744073709551615 from rfl, this]
  unfold dg; rw [e]
theorem cntN_dg {n : Int} (h0 : 0 ≤ n) (h1 : n < 18446744073709551616) : cntN ⟨(dg n).toArray⟩ = n := by
  unfold cntN
  rw [show (⟨(dg n).toArray⟩ : ByteArray).data.toList = dg n from rfl, parse_dg h0 h1]
  simp only; omega
theorem cntB_dg {n : Int} (h0 : 0 ≤ n) (h1 : n < 18446744073709551616) : cntB ⟨(dg n).toArray⟩ = false := by
  unfold cntB
  rw [show (⟨(dg n).toArray⟩ : ByteArray).data.toList = dg n from rfl, parse_dg h0 h1]

/-! pieces -/
theorem occ_char {s sep : List UInt8} {i j : Nat} {c : UInt8} (h : Lib.occAt s sep j = true) (hc : sep[i]? = some c) : s[j + i]? = some c := by
  unfold Lib.occAt at h
  obtain ⟨r, hr⟩ := List.isPrefixOf_iff_prefix.1 h
  have hi : i < sep.length := (List.getElem?_eq_some_iff.1 hc).1
  have : (s.drop j)[i]? = some c := by rw [← hr, List.getElem?_append_left hi]; exact hc
  simpa using this
theorem index_at {A sep B : List UInt8} (h : ∀ j, j < A.length → Lib.occAt (A ++ (sep ++ B)) sep j = false) : Lib.index (A ++ (sep ++ B)) sep = A.length := by
  refine Lib.index_first (by simp) ?_ h
  unfold Lib.occAt
  rw [List.drop_left]
  exact List.isPrefixOf_iff_prefix.2 ⟨B, rfl⟩
theorem cut_at {A sep B : List UInt8} (h : ∀ j, j < A.length → Lib.occAt (A ++ (sep ++ B)) sep j = false) : Lib.cut (A ++ (sep ++ B)) sep = (A, B, true) := by
  unfold Lib.cut
  rw [index_at h, if_pos (by omega), Int.toNat_natCast]
  simp [List.take_left, List.drop_append]
theorem no_occ {A sep B : List UInt8} {c : UInt8} {t : List UInt8} (hs : sep = c :: t) (hc : c ∉ A) : ∀ j, j < A.length → Lib.occAt (A ++ (sep ++ B)) sep j = false := fun j hj => by
  cases h : Lib.occAt (A ++ (sep ++ B)) sep j with
  | false => rfl
  | true =>
    have := occ_char (i := 0) h (by rw [hs]; rfl)
    rw [Nat.add_zero, List.getElem?_append_left hj] at this
    exact absurd (List.mem_of_getElem? this) hc
theorem no_arrow {A B : List UInt8} (hc : 45 ∉ A) : ∀ j, j < A.length → Lib.occAt (A ++ (arrow ++ B)) arrow j = false := fun j hj => by
  cases h : Lib.occAt (A ++ (arrow ++ B)) arrow j with
  | false => rfl
  | true =>
    have := occ_char (i := 1) (c := 45) h rfl
    by_cases hl : j + 1 < A.length
    · rw [List.getElem?_append_left hl] at this
      exact absurd (List.mem_of_getElem? this) hc
    · rw [List.getElem?_append_right (by omega), show j + 1 - A.length = 0 by omega] at this
      simp [arrow] at this
theorem cut_none {s sep : List UInt8} {c : UInt8} (hc : c ∈ sep) (hs : c ∉ s) : Lib.cut s sep = (s, [], false) := by
  have : Lib.index s sep = -1 := Lib.index_none fun j hj => by
    cases h : Lib.occAt s sep j with
    | false => rfl
    | true =>
      obtain ⟨i, hi, rfl⟩ := List.getElem_of_mem hc
      have := occ_char (i := i) h (List.getElem?_eq_getElem hi)
      exact absurd (List.mem_of_getElem? this) hs
  unfold Lib.cut
  rw [this, if_neg (by omega)]
theorem cut_len (s sep : List UInt8) : (Lib.cut s sep).1.length ≤ s.length ∧ (Lib.cut s sep).2.1.length ≤ s.length := by
  unfold Lib.cut
  split
  · simp only [List.length_take, List.length_drop]; omega
  · simp
theorem Cut_eq (s sep : List UInt8) (h : s.length < 4294967281) : strings_Cut.f ⟨s.toArray⟩ ⟨sep.toArray⟩ = some (⟨(Lib.cut s sep).1.toArray⟩, ⟨(Lib.cut s sep).2.1.toArray⟩, (Lib.cut s sep).2.2) := by
  unfold strings_Cut.f
  rw [if_pos (by rw [mk_size]; exact h)]
def hasP (s p : List UInt8) : Bool := decide (p.length ≤ s.length) && (s.take p.length == p)
theorem extr (s : List UInt8) (a b : Nat) : (⟨s.toArray⟩ : ByteArray).extract a b = ⟨((s.drop a).take (b - a)).toArray⟩ := by
  rw [eq_mk ((⟨s.toArray⟩ : ByteArray).extract a b), Lib.extract_data]
theorem HasPrefix_eq (s p : List UInt8) : stringslite_HasPrefix.f ⟨s.toArray⟩ ⟨p.toArray⟩ = some (hasP s p) := by
  unfold stringslite_HasPrefix.f hasP
  rw [mk_size, mk_size]
  by_cases h : p.length ≤ s.length
  · rw [if_pos (by omega), if_pos (by omega), if_pos (by omega), decide_eq_true h, Int.toNat_natCast, extr, mk_list, mk_list, List.drop_zero, Nat.sub_zero, Bool.true_and]
  · rw [if_neg (by omega), decide_eq_false h, Bool.false_and]
theorem hasP_le {s p : List UInt8} (h : hasP s p = true) : p.length ≤ s.length := by
  unfold hasP at h
  simp at h
  exact h.1
theorem CutPrefix_eq (s p : List UInt8) : strings_CutPrefix.f ⟨s.toArray⟩ ⟨p.toArray⟩ = some (if hasP s p = true then (⟨(s.drop p.length).toArray⟩, true) else (⟨s.toArray⟩, false)) := by
  unfold strings_CutPrefix.f stringslite_CutPrefix.f
  rw [HasPrefix_eq]
  simp only [Option.bind_some]
  cases h : hasP s p with
  | false => simp
  | true =>
    have := hasP_le h
    rw [if_pos rfl, mk_size, mk_size, if_pos (by omega), if_pos (by omega), Int.toNat_natCast, extr]
    simp only [Option.bind_some, if_true]
    rw [List.take_of_length_le (by rw [List.length_drop]; omega)]
theorem TrimPrefix_eq (s p : List UInt8) : strings_TrimPrefix.f ⟨s.toArray⟩ ⟨p.toArray⟩ = some (if hasP s p = true then ⟨(s.drop p.length).toArray⟩ else ⟨s.toArray⟩) := by
  unfold strings_TrimPrefix.f stringslite_TrimPrefix.f
  rw [HasPrefix_eq]
  simp only [Option.bind_some]
  cases h : hasP s p with
  | false => simp
  | true =>
    have := hasP_le h
    rw [if_pos rfl, mk_size, mk_size, if_pos (by omega), if_pos (by omega), Int.toNat_natCast, extr]
    simp only [Option.bind_some, if_true]
    rw [List.take_of_length_le (by rw [List.length_drop]; omega)]
theorem hasP_app (p r : List UInt8) : hasP (p ++ r) p = true := by
  unfold hasP
  simp
theorem hasP_head {c d : UInt8} {s p : List UInt8} (h : c ≠ d) : hasP (c :: s) (d :: p) = false := by
  unfold hasP
  simp [h]
/-! split at commas -/
theorem split_one {A : List UInt8} (h : 44 ∉ A) : Lib.splitK [44, 32] 0 (Lib.count A [44, 32]) A = [A] := by
  have : Lib.index A [44, 32] = -1 := by
    refine Lib.index_none fun j hj => ?_
    cases hh : Lib.occAt A [44, 32] j with
    | false => rfl
    | true =>
      have := occ_char (i := 0) (c := 44) hh rfl
      exact absurd (List.mem_of_getElem? this) h
  rw [Lib.count_miss this]; rfl
theorem split_more {A B : List UInt8} (h : 44 ∉ A) : Lib.splitK [44, 32] 0 (Lib.count (A ++ ([44, 32] ++ B)) [44, 32]) (A ++ ([44, 32] ++ B)) = A :: Lib.splitK [44, 32] 0 (Lib.count B [44, 32]) B := by
  have hi : Lib.index (A ++ ([44, 32] ++ B)) [44, 32] = A.length := index_at (no_occ (c := 44) rfl h)
  have hd : (A ++ ([44, 32] ++ B)).drop (A.length + 2) = B := by
    rw [List.drop_append]; simp
  rw [Lib.count_hit (by simp) hi, Nat.add_comm 1, Lib.splitK, hi, if_neg (by simp only [beq_iff_eq]; omega), Int.toNat_natCast, Nat.add_zero, List.take_left]
  simp only [List.length_cons, List.length_nil]
  rw [hd]
theorem split_join : ∀ (t : S50) (ts : List S50), (∀ x ∈ t :: ts, 44 ∉ textL x) → Lib.splitK [44, 32] 0 (Lib.count (Lib.join ((t :: ts).map textL) [44, 32]) [44, 32]) (Lib.join ((t :: ts).map textL) [44, 32]) = (t :: ts).map textL := by
  intro t ts
  induction ts generalizing t with
  | nil => intro h; rw [List.map_cons, List.map_nil, Lib.join_one]; exact split_one (h t List.mem_cons_self)
  | cons u ts ih =>
    intro h
    have e : Lib.join ((t :: u :: ts).map textL) [44, 32] = textL t ++ ([44, 32] ++ Lib.join ((u :: ts).map textL) [44, 32]) := by
      rw [List.map_cons, Lib.join_cons, List.map_cons, Lib.join_cons]
      simp [Lib.joinTail, List.append_assoc]
    rw [e, split_more (h t List.mem_cons_self), ih u (fun x hx => h x (List.mem_cons_of_mem _ hx)), List.map_cons (f := textL) (a := t)]
theorem map_data_inj : ∀ {a b : List ByteArray}, a.map (·.data.toList) = b.map (·.data.toList) → a = b := by
  intro a
  induction a with
  | nil => intro b h; cases b with
    | nil => rfl
    | cons y b => simp at h
  | cons x a ih => intro b h; cases b with
    | nil => simp at h
    | cons y b =>
      simp only [List.map_cons, List.cons.injEq] at h
      rw [ih h.2, eq_mk x, eq_mk y, h.1]
theorem Split_eq (t : S50) (ts : List S50) (h : ∀ x ∈ t :: ts, 44 ∉ textL x) (hl : (Lib.join ((t :: ts).map textL) [44, 32]).length < 4294967281) :
    strings_Split.f ⟨(Lib.join ((t :: ts).map textL) [44, 32]).toArray⟩ ⟨#[44, 32]⟩ = some ((t :: ts).map fun x => (⟨(textL x).toArray⟩ : ByteArray)) := by
  unfold strings_Split.f
  rw [if_pos ⟨by rw [mk_size]; exact hl, by decide⟩]
  congr 1
  apply map_data_inj
  rw [Lib.splitB_data, List.map_map]
  exact split_join t ts h
theorem splitB_sizes (sep : ByteArray) : ∀ (k : Nat) (s : ByteArray), ∀ p ∈ Lib.splitB sep 0 k s, p.size ≤ s.size := by
  intro k
  induction k with
  | zero => intro s p hp; rw [Lib.splitB_zero, List.mem_singleton] at hp; rw [hp]; exact Nat.le_refl _
  | succ k ih =>
    intro s p hp
    rw [Lib.splitB] at hp
    split at hp
    · rw [List.mem_singleton] at hp; rw [hp]; exact Nat.le_refl _
    · rcases List.mem_cons.1 hp with rfl | hp
      · rw [ByteArray.size_extract]; omega
      · have := ih _ p hp
        rw [ByteArray.size_extract] at this; omega
end Go.Proofs.YtighficpbplkhaaDoor.Pure

/- Chapter 18, plain: the document's May. No conditions but the ones each theorem names. -/
namespace Go.Proofs.YtighficpbplkhaaDoor.Pure
open Go.RowKit Go.Proofs.YtighficpbplkhaaDoorW.PrintWords Go.Proofs.YtighficpbplkhaaDoorW.PrintLast Go.Proofs.YtighficpbplkhaaDoorW.PrintMore Go.Proofs.YtighficpbplkhaaDoor.P
set_option linter.unusedVariables false
set_option linter.unusedSimpArgs false

theorem refFull_eq {s : Int} (h0 : 0 ≤ s) (h1 : s ≤ 8) (k : Nat) : stockaderef18_Full.f (k + 9) s = some (fullV s) := by
  have : s = 0 ∨ s = 1 ∨ s = 2 ∨ s = 3 ∨ s = 4 ∨ s = 5 ∨ s = 6 ∨ s = 7 ∨ s = 8 := by omega
  refine at_rounds (g := fun k => stockaderef18_Full.f k s) (stockaderef18_Full.mono s) (Nat.le_add_left 9 k) ?_
  rcases this with rfl | rfl | rfl | rfl | rfl | rfl | rfl | rfl | rfl <;> decide +kernel

theorem refMay_j2 (k : Nat) (b : Bool) (x0 : Bool) (x1 x2 x3 x4 x5 x6 : Int) (h : b = false → 1 ≤ x3 ∧ x3 ≤ 8) : stockaderef18_May.j2 (k + 10) b x0 x1 x2 x3 x4 x5 x6 = some (!b && decide (0 ≤ x2 ∧ x2 ≤ 255 ∧ 1 ≤ x4 ∧ x4 ≤ fullV x3 ∧ x6 ≤ fullV x3)) := by
  rw [stockaderef18_May.j2]
  cases b with
  | true => simp
  | false =>
    obtain ⟨h0, h1⟩ := h rfl
    rw [refFull_eq (by omega) h1]
    simp only [Bool.false_eq_true, if_false, Option.bind_some, Bool.not_false, Bool.true_and]
    by_cases c1 : x2 ≥ 0
    · by_cases c2 : x2 ≤ 255
      · by_cases c3 : x4 > 0
        · by_cases c4 : x4 ≤ fullV x3
          · have c1' : 0 ≤ x2 := c1
            have c3' : 1 ≤ x4 := by omega
            simp [c1, c2, c3, c4, c1', c3']
          · simp [c1, c2, c3, c4]
        · simp only [if_pos c1, if_pos c2, if_neg c3]; congr 1; symm; simp only [decide_eq_false_iff_not]; omega
      · simp [c1, c2]
    · simp only [if_neg c1]; congr 1; symm; simp only [decide_eq_false_iff_not]; omega
theorem refMay_eq (k : Nat) (t : S50) : stockaderef18_May.f (k + 12) t.f0 t.f1 t.f2 t.f3 t.f4 t.f5 t.f6 = some (mayB t) := by
  obtain ⟨x0, x1, x2, x3, x4, x5, x6⟩ := t
  unfold stockaderef18_May.f mayB
  dsimp only
  by_cases c0 : x5 > x6
  · rw [if_pos c0]; congr 1; symm; simp only [decide_eq_false_iff_not]; omega
  · rw [if_neg c0]
    have c0' : x5 ≤ x6 := by omega
    by_cases c1 : x1 = 1
    · subst c1
      simp only [if_true, stockaderef18_May.j0, c0', true_and, true_or, Int.reduceEq, false_or, false_and, or_false]
      by_cases a : x2 = 0 <;> by_cases b : x3 = 0 <;> by_cases c : x4 = 0 <;> simp [a, b, c]
    · by_cases c2 : x1 = 2
      · subst c2
        simp only [if_true, stockaderef18_May.j0, c0', true_and, Int.reduceEq, if_false, BEq.rfl, or_true, false_or, false_and, or_false]
        by_cases a : x2 = 0 <;> by_cases b : x3 = 0 <;> by_cases c : x4 = 0 <;> simp [a, b, c]
      · have c2b : (x1 == 2) = false := by simp [c2]
        rw [if_neg c1, c2b]
        simp only [stockaderef18_May.j0, Bool.false_eq_true, if_false, c0', c1, c2, or_self, false_and, false_or, true_and]
        have key : ∀ b : Bool, stockaderef18_May.j1 (k + 11) b x0 x1 x2 x3 x4 x5 x6 = some (!b && decide ((x3 = 1 ∨ x3 = 2 ∨ x3 = 4 ∨ x3 = 8) ∧ 0 ≤ x2 ∧ x2 ≤ 255 ∧ 1 ≤ x4 ∧ x4 ≤ fullV x3 ∧ x6 ≤ fullV x3)) := by
          intro b
          rw [stockaderef18_May.j1]
          cases b with
          | true => simp
          | false =>
            simp only [Bool.false_eq_true, if_false, Bool.not_false, Bool.true_and]
            by_cases a1 : x3 = 1
            · rw [if_pos a1, refMay_j2 k _ _ _ _ _ _ _ _ (fun _ => by omega)]; simp [a1]
            · rw [if_neg a1]
              by_cases a2 : x3 = 2
              · rw [if_pos a2, refMay_j2 k _ _ _ _ _ _ _ _ (fun _ => by omega)]; simp [a2]
              · rw [if_neg a2]
                by_cases a3 : x3 = 4
                · rw [if_pos a3, refMay_j2 k _ _ _ _ _ _ _ _ (fun _ => by omega)]; simp [a3]
                · rw [if_neg a3]
                  by_cases a4 : x3 = 8
                  · rw [refMay_j2 k _ _ _ _ _ _ _ _ (fun _ => by omega)]; simp [a4]
                  · rw [refMay_j2 k (x3 != 8) _ _ _ _ _ _ _ (fun h => absurd (by simpa using h) a4)]; simp [a1, a2, a3, a4]
        by_cases c3 : x1 = 3
        · rw [if_pos c3, key]; simp [c3]
        · rw [if_neg c3, key]
          by_cases c4 : x1 = 4
          · simp [c4]
          · have : (x1 != 4) = true := by simp [c4]
            simp [this, c3, c4]
theorem refMay_ev (t : S50) : Ev (fun k => stockaderef18_May.f k t.f0 t.f1 t.f2 t.f3 t.f4 t.f5 t.f6) (mayB t) := Ev.eq_ 12 (fun k => refMay_eq k t)
end Go.Proofs.YtighficpbplkhaaDoor.Pure

/- Chapter 18, plain: the document's reader takes words and numbers. No conditions but the ones each theorem names. -/
namespace Go.Proofs.YtighficpbplkhaaDoor.Pure
open Go.RowKit Go.Proofs.YtighficpbplkhaaDoorW.PrintWords Go.Proofs.YtighficpbplkhaaDoorW.PrintLast Go.Proofs.YtighficpbplkhaaDoorW.PrintMore Go.Proofs.YtighficpbplkhaaDoor.P
set_option linter.unusedVariables false
set_option linter.unusedSimpArgs false

/-! words -/
theorem has_eq (s w : List UInt8) (a : Nat) (b : Bool) (ha : a ≤ s.length) (hs : s.length ≤ 65536) (hw : w.length ≤ 100) :
    stockaderef18_reader_has.f ⟨s.toArray⟩ a b ⟨w.toArray⟩ = some (if hasP (s.drop a) w = true then (true, ⟨s.toArray⟩, ((a + w.length : Nat) : Int), b) else (false, ⟨s.toArray⟩, (a : Int), b)) := by
  unfold stockaderef18_reader_has.f hasP
  have e : wrap64 ((a : Int) + (w.length : Int)) = ((a + w.length : Nat) : Int) := by unfold wrap64; omega
  rw [mk_size, mk_size, e]
  by_cases h : a + w.length ≤ s.length
  · rw [if_neg (by omega), if_pos (by omega), if_pos (by omega), if_pos (by omega), Int.toNat_natCast, Int.toNat_natCast, extr, mk_list, mk_list, show a + w.length - a = w.length by omega, decide_eq_true (by rw [List.length_drop]; omega), Bool.true_and]
    by_cases h2 : (s.drop a).take w.length = w
    · rw [if_pos h2, if_pos (by rw [h2]; simp)]
    · rw [if_neg h2, if_neg (by simpa using h2)]
  · rw [if_pos (by omega), decide_eq_false (by rw [List.length_drop]; omega), Bool.false_and, if_neg (by simp)]
theorem must_eq (s w : List UInt8) (a : Nat) (b : Bool) (ha : a ≤ s.length) (hs : s.length ≤ 65536) (hw : w.length ≤ 100) :
    stockaderef18_reader_must.f ⟨s.toArray⟩ a b ⟨w.toArray⟩ = some (if hasP (s.drop a) w = true then (⟨s.toArray⟩, ((a + w.length : Nat) : Int), b) else (⟨s.toArray⟩, (a : Int), true)) := by
  unfold stockaderef18_reader_must.f
  rw [has_eq s w a b ha hs hw, Option.bind_some]
  cases h : hasP (s.drop a) w <;> cases b <;> simp
theorem hasP_split {r p : List UInt8} (h : hasP r p = true) : r = p ++ r.drop p.length := by
  unfold hasP at h
  simp only [Bool.and_eq_true, decide_eq_true_eq, beq_iff_eq] at h
  conv => lhs; rw [← List.take_append_drop p.length r, h.2]
theorem drop_at {s p : List UInt8} {a : Nat} (ha : a ≤ s.length) (h : hasP (s.drop a) p = true) : s.drop a = p ++ s.drop (a + p.length) ∧ a + p.length ≤ s.length := by
  have h1 := hasP_split h
  have h2 := hasP_le h
  rw [List.drop_drop] at h1
  rw [List.length_drop] at h2
  exact ⟨h1, by omega⟩

/-! numbers -/
def NoDig (r : List UInt8) : Prop := ∀ c l, r = c :: l → ¬ IsDig c
theorem bt_get {s : List UInt8} {i : Nat} (h : i < s.length) : bt ⟨s.toArray⟩ (i : Int) = ((s[i].toNat : Nat) : Int) := by
  unfold bt
  have h2 : (i : Int).toNat < (⟨s.toArray⟩ : ByteArray).size := by rw [mk_size]; simpa using h
  rw [dif_pos h2]
  simp [ByteArray.getElem_eq_getElem_data]
theorem byte_of {c : UInt8} (h : IsDig c) : UInt8.ofNat (48 + (c.toNat - 48)) = c := by
  have : 48 + (c.toNat - 48) = c.toNat := by have := h.1; omega
  rw [this]; exact UInt8.ofNat_toNat
theorem dec_snoc {n : Nat} {c : UInt8} (hn : 1 ≤ n) (hc : IsDig c) : Lib.decDigits (n * 10 + (c.toNat - 48)) = Lib.decDigits n ++ [c] := by
  obtain ⟨h0, h1⟩ := hc
  rw [Lib.decDigits, dif_neg (by omega), show (n * 10 + (c.toNat - 48)) / 10 = n by omega, show (n * 10 + (c.toNat - 48)) % 10 = c.toNat - 48 by omega, byte_of ⟨h0, h1⟩]
/-- What has been taken of a number: nothing; the number's digits; something that begins with 0 and goes on. -/
def Taken (p : List UInt8) (n : Nat) : Prop := (p = [] ∧ n = 0) ∨ p = Lib.decDigits n ∨ (∃ r, r ≠ [] ∧ p = 48 :: r)
theorem Taken.step {p : List UInt8} {n : Nat} {c : UInt8} (h : Taken p n) (hc : IsDig c) : Taken (p ++ [c]) (n * 10 + (c.toNat - 48)) := by
  rcases h with ⟨rfl, rfl⟩ | rfl | ⟨r, hr, rfl⟩
  · right; left
    rw [Nat.zero_mul, Nat.zero_add, Lib.decDigits_one (by have := hc.2; omega), byte_of hc]; rfl
  · by_cases hn : n = 0
    · right; right
      subst hn
      exact ⟨[c], by simp, by rw [Lib.decDigits_one (by omega)]; rfl⟩
    · right; left
      exact (dec_snoc (by omega) hc).symm
  · right; right
    exact ⟨r ++ [c], by simp, by simp⟩
theorem num_stop (s : List UInt8) (hs : s.length ≤ 65536) (fr a : Nat) (p : List UInt8) (n : Nat) (hp : s.drop fr = p ++ s.drop a) (hal : a = fr + p.length) (hle : a ≤ s.length) (ht : Taken p n) (most : Int) :
    ∃ b, Ev (fun k => stockaderef18_reader_number.j1 k most n fr false ⟨s.toArray⟩ a false) ((n : Int), ⟨s.toArray⟩, (a : Int), b) ∧ (b = false ↔ p = Lib.decDigits n) := by
  by_cases h0 : a = fr
  · refine ⟨true, Ev.step_ (g := fun _ => some ((n : Int), ⟨s.toArray⟩, (a : Int), true)) (fun K => ?_) Ev.pure, by simp, fun h => ?_⟩
    · rw [stockaderef18_reader_number.j1, if_neg (by simp), if_pos (by omega)]
    · have := dec_ne n
      rw [← h] at this
      have hl : p.length = 0 := by omega
      exact absurd (List.length_eq_zero_iff.1 hl) this
  · have hw : wrap64 ((fr : Int) + 1) = ((fr + 1 : Nat) : Int) := ws (by omega)
    have hfr : fr < s.length := by omega
    have hhead : p[0]? = some s[fr] := by
      have h1 : (s.drop fr)[0]? = some s[fr] := by simp [List.getElem?_eq_getElem hfr]
      rw [hp, List.getElem?_append_left (by omega)] at h1
      exact h1
    by_cases h1 : a > fr + 1
    · by_cases h48 : s[fr] = 48
      · refine ⟨true, Ev.step_ (g := fun _ => some ((n : Int), ⟨s.toArray⟩, (a : Int), true)) (fun K => ?_) Ev.pure, by simp, fun h => ?_⟩
        · rw [stockaderef18_reader_number.j1, if_neg (by simp), if_neg (by omega), hw, if_pos (by omega), if_pos (by omega), if_pos (by rw [mk_size]; omega), bt_get hfr, if_pos (by rw [h48]; rfl)]
        · exfalso
          rw [h] at hhead hal
          rw [h48] at hhead
          by_cases hn : n < 10
          · rw [Lib.decDigits_one hn] at hal
            simp at hal; omega
          · have key : ∀ m n : Nat, n ≤ m → 1 ≤ n → (Lib.decDigits n)[0]? ≠ some 48 := by
              intro m
              induction m with
              | zero => intro n h1 h2; omega
              | succ m ih =>
                intro n h1 h2
                rw [Lib.decDigits]
                split
                · rename_i h10
                  intro he
                  have := congrArg UInt8.toNat (Option.some.inj he)
                  rw [dig_ofNat h10] at this
                  have e48 : (48 : UInt8).toNat = 48 := rfl
                  omega
                · rename_i h10
                  have hpos : 0 < (Lib.decDigits (n / 10)).length := List.length_pos_iff.2 (dec_ne _)
                  rw [List.getElem?_append_left hpos]
                  exact ih (n / 10) (by omega) (by omega)
            exact key n n (Nat.le_refl n) (by omega) hhead
      · refine ⟨false, Ev.step_ (g := fun _ => some ((n : Int), ⟨s.toArray⟩, (a : Int), false)) (fun K => ?_) Ev.pure, fun _ => ?_, fun _ => rfl⟩
        · rw [stockaderef18_reader_number.j1, if_neg (by simp), if_neg (by omega), hw, if_pos (by omega), if_pos (by omega), if_pos (by rw [mk_size]; omega), bt_get hfr, if_neg (fun e => h48 (by
            have e2 : s[fr].toNat = 48 := by omega
            have := congrArg UInt8.ofNat e2
            rwa [UInt8.ofNat_toNat] at this))]
        · rcases ht with ⟨rfl, _⟩ | h | ⟨r, hr, rfl⟩
          · simp at hal; omega
          · exact h
          · simp at hhead; exact absurd hhead.symm h48
    · refine ⟨false, Ev.step_ (g := fun _ => some ((n : Int), ⟨s.toArray⟩, (a : Int), false)) (fun K => ?_) Ev.pure, fun _ => ?_, fun _ => rfl⟩
      · rw [stockaderef18_reader_number.j1, if_neg (by simp), if_neg (by omega), hw, if_neg (by omega)]
      · rcases ht with ⟨rfl, _⟩ | h | ⟨r, hr, rfl⟩
        · simp at hal; omega
        · exact h
        · have : 0 < r.length := List.length_pos_iff.2 hr
          simp at hal; omega
theorem num_over {most n d : Nat} (hm : most < 18446744073709551616) (hn : n ≤ most) (hd : d < 10) :
    (((d : Int) > (most : Int)) ∨ ((n : Int) > (IntKind.u64.wrap (Int.tdiv (IntKind.u64.wrap ((most : Int) - (d : Int))) 10)))) ↔ most < n * 10 + d := by
  have hw : ∀ x : Int, IntKind.u64.wrap x = x % 18446744073709551616 := fun x => by simp [IntKind.wrap, IntKind.bits, IntKind.signed]
  by_cases h : d > most
  · constructor
    · intro _; omega
    · intro _; left; omega
  · have e : IntKind.u64.wrap ((most : Int) - (d : Int)) = ((most - d : Nat) : Int) := by rw [hw]; omega
    have e2 : Int.tdiv ((most - d : Nat) : Int) 10 = (((most - d) / 10 : Nat) : Int) := by rw [Int.tdiv_eq_ediv_of_nonneg (by omega)]; omega
    have e3 : IntKind.u64.wrap (((most - d) / 10 : Nat) : Int) = (((most - d) / 10 : Nat) : Int) := by rw [hw]; omega
    rw [e, e2, e3]
    omega
/-- One step: a digit that fits is taken; at one that does not fit it stops, and all is bad; at no digit it stops. -/
theorem num_dig (s : List UInt8) (hs : s.length ≤ 65536) (most n fr a : Nat) (hm : most < 18446744073709551616) (hn : n ≤ most) (ha : a < s.length) (hc : IsDig s[a]) (R : Int × ByteArray × Int × Bool)
    (h : Ev (fun k => if most < n * 10 + (s[a].toNat - 48) then some ((0 : Int), (⟨s.toArray⟩ : ByteArray), (a : Int), true) else stockaderef18_reader_number.l0 k most ((n * 10 + (s[a].toNat - 48) : Nat) : Int) fr ⟨s.toArray⟩ ((a + 1 : Nat) : Int) false) R) :
    Ev (fun k => stockaderef18_reader_number.l0 k most n fr ⟨s.toArray⟩ a false) R := by
  obtain ⟨c0, c1⟩ := hc
  refine Ev.step_ (g := fun k => stockaderef18_reader_number.j1 k most n fr true ⟨s.toArray⟩ a false) (fun K => ?_) (Ev.step_ (fun K => ?_) h)
  · rw [stockaderef18_reader_number.l0, if_pos (by rw [mk_size]; omega), if_pos (by omega), bt_get ha, if_pos (by omega), if_pos (by omega)]
    rfl
  · have ed : (((s[a].toNat : Nat) : Int) - 48) % 256 = ((s[a].toNat - 48 : Nat) : Int) := by omega
    have ho := num_over (d := s[a].toNat - 48) hm hn (by omega)
    have hw : ∀ x : Int, IntKind.u64.wrap x = x % 18446744073709551616 := fun x => by simp [IntKind.wrap, IntKind.bits, IntKind.signed]
    rw [stockaderef18_reader_number.j1, if_pos rfl, if_pos (by omega), if_pos (by rw [mk_size]; omega), bt_get ha, ed, ws (by omega)]
    by_cases h1 : ((s[a].toNat - 48 : Nat) : Int) > (most : Int)
    · rw [if_pos h1, if_pos (ho.1 (.inl h1))]
    · rw [if_neg h1]
      by_cases h2 : (n : Int) > (IntKind.u64.wrap (Int.tdiv (IntKind.u64.wrap ((most : Int) - ((s[a].toNat - 48 : Nat) : Int))) 10))
      · rw [if_pos h2, if_pos (ho.1 (.inr h2))]
      · have h3 : ¬ most < n * 10 + (s[a].toNat - 48) := fun h => (ho.2 h).elim h1 h2
        have e : IntKind.u64.wrap ((IntKind.u64.wrap (10 * (n : Int))) + ((s[a].toNat - 48 : Nat) : Int)) = ((n * 10 + (s[a].toNat - 48) : Nat) : Int) := by rw [hw, hw]; omega
        rw [if_neg h2, if_neg h3, e]
theorem num_end (s : List UInt8) (hs : s.length ≤ 65536) (most n fr a : Nat) (ha : a ≤ s.length) (hc : NoDig (s.drop a)) (R : Int × ByteArray × Int × Bool)
    (h : Ev (fun k => stockaderef18_reader_number.j1 k most n fr false ⟨s.toArray⟩ a false) R) : Ev (fun k => stockaderef18_reader_number.l0 k most n fr ⟨s.toArray⟩ a false) R := by
  refine Ev.step_ (fun K => ?_) h
  by_cases hl : a < s.length
  · have hnd : ¬ IsDig s[a] := hc _ _ (List.drop_eq_getElem_cons hl)
    rw [stockaderef18_reader_number.l0, if_pos (by rw [mk_size]; omega), if_pos (by omega), bt_get hl]
    by_cases h48 : ((s[a].toNat : Nat) : Int) ≥ 48
    · rw [if_pos h48, if_neg (fun h57 => hnd ⟨by omega, by omega⟩)]
    · rw [if_neg h48]
  · rw [stockaderef18_reader_number.l0, if_neg (by rw [mk_size]; omega)]
theorem num_l0 (s : List UInt8) (hs : s.length ≤ 65536) (most fr : Nat) (hm : most < 18446744073709551616) : ∀ (m a : Nat) (p : List UInt8) (n : Nat), a + m = s.length → s.drop fr = p ++ s.drop a → a = fr + p.length → Taken p n → n ≤ most →
    ∃ (v : Int) (a' : Nat) (b : Bool), Ev (fun k => stockaderef18_reader_number.l0 k most n fr ⟨s.toArray⟩ a false) (v, ⟨s.toArray⟩, (a' : Int), b) ∧ a ≤ a' ∧ a' ≤ s.length ∧ 0 ≤ v ∧ v ≤ most ∧ (b = false → s.drop fr = dg v ++ s.drop a') := by
  intro m
  induction m with
  | zero =>
    intro a p n ha hp hal ht hn
    obtain ⟨b, hb, hbf⟩ := num_stop s hs fr a p n hp hal (by omega) ht most
    refine ⟨n, a, b, num_end s hs most n fr a (by omega) (fun c l h => by rw [List.drop_eq_nil_of_le (by omega)] at h; simp at h) _ hb, by omega, by omega, by omega, by omega, fun h => ?_⟩
    rw [hp, hbf.1 h]; rfl
  | succ m ih =>
    intro a p n ha hp hal ht hn
    have hl : a < s.length := by omega
    by_cases hc : IsDig s[a]
    · by_cases ho : most < n * 10 + (s[a].toNat - 48)
      · exact ⟨0, a, true, num_dig s hs most n fr a hm hn hl hc _ (Ev.eqn (fun K => if_pos ho) Ev.pure), by omega, by omega, by omega, by omega, by simp⟩
      · obtain ⟨v, a', b, hev, h1, h2, h3, h4, h5⟩ := ih (a + 1) (p ++ [s[a]]) (n * 10 + (s[a].toNat - 48)) (by omega) (by rw [hp, List.append_assoc, List.drop_eq_getElem_cons hl]; rfl) (by rw [List.length_append]; simp only [List.length_cons, List.length_nil]; omega) (ht.step hc) (by omega)
        exact ⟨v, a', b, num_dig s hs most n fr a hm hn hl hc _ (Ev.eqn (fun K => if_neg ho) hev), by omega, h2, h3, h4, h5⟩
    · obtain ⟨b, hb, hbf⟩ := num_stop s hs fr a p n hp hal (by omega) ht most
      refine ⟨n, a, b, num_end s hs most n fr a (by omega) (fun c l h => ?_) _ hb, by omega, by omega, by omega, by omega, fun h => ?_⟩
      · rw [List.drop_eq_getElem_cons hl] at h
        injection h with h1 _
        rw [← h1]; exact hc
      · rw [hp, hbf.1 h]; rfl
theorem number_any (s : List UInt8) (hs : s.length ≤ 65536) (most : Int) (m0 : 0 ≤ most) (m1 : most < 18446744073709551616) (a : Nat) (ha : a ≤ s.length) (bad : Bool) :
    ∃ (v : Int) (a' : Nat) (b : Bool), Ev (fun k => stockaderef18_reader_number.f k ⟨s.toArray⟩ a bad most) (v, ⟨s.toArray⟩, (a' : Int), b) ∧ a ≤ a' ∧ a' ≤ s.length ∧ 0 ≤ v ∧ v ≤ most ∧ (b = false → bad = false ∧ s.drop a = dg v ++ s.drop a') := by
  obtain ⟨mo, rfl⟩ := Int.eq_ofNat_of_zero_le m0
  cases bad with
  | false =>
    obtain ⟨v, a', b, hev, h1, h2, h3, h4, h5⟩ := num_l0 s hs mo a (by omega) (s.length - a) a [] 0 (by omega) rfl rfl (.inl ⟨rfl, rfl⟩) (by omega)
    exact ⟨v, a', b, hev, h1, h2, h3, h4, fun h => ⟨rfl, h5 h⟩⟩
  | true =>
    refine ⟨0, a, true, Ev.step_ (g := fun k => stockaderef18_reader_number.j1 k mo 0 a false ⟨s.toArray⟩ a true) (fun K => ?_) (Ev.step_ (g := fun _ => some ((0 : Int), (⟨s.toArray⟩ : ByteArray), (a : Int), true)) (fun K => ?_) Ev.pure), Nat.le_refl _, ha, by omega, by omega, by simp⟩
    · unfold stockaderef18_reader_number.f
      rw [stockaderef18_reader_number.l0, mk_size]
      by_cases hl : a < s.length
      · rw [if_pos (by omega), if_pos (by omega)]
        by_cases h48 : bt ⟨s.toArray⟩ (a : Int) ≥ 48
        · rw [if_pos h48]
          by_cases h57 : bt ⟨s.toArray⟩ (a : Int) ≤ 57
          · rw [if_pos h57]; rfl
          · rw [if_neg h57]
        · rw [if_neg h48]
      · rw [if_neg (by omega)]
    · rw [stockaderef18_reader_number.j1, if_neg (by simp), if_pos rfl]
theorem num_text (s : List UInt8) (hs : s.length ≤ 65536) (most fr : Nat) (hm : most < 18446744073709551616) (v : Nat) (hv : v ≤ most) : ∀ (ds : List UInt8) (a : Nat) (p : List UInt8) (n : Nat) (r : List UInt8), s.drop a = ds ++ r → NoDig r → (∀ c ∈ ds, IsDig c) → s.drop fr = p ++ s.drop a → a = fr + p.length → a ≤ s.length → Taken p n → p ++ ds = Lib.decDigits v → valF n ds = v →
    Ev (fun k => stockaderef18_reader_number.l0 k most n fr ⟨s.toArray⟩ a false) ((v : Int), ⟨s.toArray⟩, ((a + ds.length : Nat) : Int), false) := by
  intro ds
  induction ds with
  | nil =>
    intro a p n r hr hnd _ hp hal hle ht hpd hvf
    have hnv : n = v := hvf
    subst hnv
    rw [List.append_nil] at hpd
    obtain ⟨b, hb, hbf⟩ := num_stop s hs fr a p n hp hal hle ht most
    have : b = false := hbf.2 hpd
    subst this
    exact num_end s hs most n fr a hle (by rw [hr]; exact hnd) _ hb
  | cons c ds ih =>
    intro a p n r hr hnd hd hp hal hle ht hpd hvf
    have hl : a < s.length := by
      have := congrArg List.length hr
      simp only [List.length_drop, List.cons_append, List.length_cons] at this
      omega
    have hca : s[a] = c := by
      rw [List.drop_eq_getElem_cons hl] at hr
      simp only [List.cons_append] at hr
      injection hr
    have hc : IsDig s[a] := by rw [hca]; exact hd c List.mem_cons_self
    have hr' : s.drop (a + 1) = ds ++ r := by
      rw [List.drop_eq_getElem_cons hl] at hr
      simp only [List.cons_append] at hr
      injection hr
    rw [valF_cons, ← hca] at hvf
    have hge := valF_le ds (n * 10 + (s[a].toNat - 48))
    have nx := ih (a + 1) (p ++ [c]) (n * 10 + (s[a].toNat - 48)) r hr' hnd (fun x hx => hd x (List.mem_cons_of_mem _ hx)) (by rw [hp, List.append_assoc, List.drop_eq_getElem_cons hl, hca]; rfl) (by rw [List.length_append]; simp only [List.length_cons, List.length_nil]; omega) (by omega) (by rw [← hca]; exact ht.step hc) (by rw [List.append_assoc]; exact hpd) hvf
    refine num_dig s hs most n fr a hm (by omega) hl hc _ (Ev.eqn (fun K => if_neg (by omega)) ?_)
    rw [List.length_cons, show a + (ds.length + 1) = a + 1 + ds.length by omega]
    exact nx
theorem number_text (s : List UInt8) (hs : s.length ≤ 65536) (most v : Int) (m1 : most < 18446744073709551616) (v0 : 0 ≤ v) (v1 : v ≤ most) (a : Nat) (ha : a ≤ s.length) (r : List UInt8) (h : s.drop a = dg v ++ r) (hr : NoDig r) :
    Ev (fun k => stockaderef18_reader_number.f k ⟨s.toArray⟩ a false most) (v, ⟨s.toArray⟩, ((a + (dg v).length : Nat) : Int), false) := by
  obtain ⟨mo, rfl⟩ := Int.eq_ofNat_of_zero_le (show 0 ≤ most by omega)
  obtain ⟨w, rfl⟩ := Int.eq_ofNat_of_zero_le v0
  exact num_text s hs mo a (by omega) w (by omega) (dg (w : Int)) a [] 0 r h hr dg_dig rfl rfl ha (.inl ⟨rfl, rfl⟩) rfl (valF_dec w w (Nat.le_refl _))
end Go.Proofs.YtighficpbplkhaaDoor.Pure

/- Chapter 18, plain: the program reads a test, a rule. No conditions but the ones each theorem names. -/
namespace Go.Proofs.YtighficpbplkhaaDoor.Pure
open Go.RowKit Go.Proofs.YtighficpbplkhaaDoorW.PrintWords Go.Proofs.YtighficpbplkhaaDoorW.PrintLast Go.Proofs.YtighficpbplkhaaDoorW.PrintMore Go.Proofs.YtighficpbplkhaaDoor.P
set_option linter.unusedVariables false
set_option linter.unusedSimpArgs false

theorem l46 : (⟨#[46, 46]⟩ : ByteArray) = ⟨([46, 46] : List UInt8).toArray⟩ := rfl
theorem l32 : (⟨#[32]⟩ : ByteArray) = ⟨([32] : List UInt8).toArray⟩ := rfl
theorem l64 : (⟨#[64]⟩ : ByteArray) = ⟨([64] : List UInt8).toArray⟩ := rfl
theorem l47 : (⟨#[47]⟩ : ByteArray) = ⟨([47] : List UInt8).toArray⟩ := rfl
theorem l117 : (⟨#[117]⟩ : ByteArray) = ⟨([117] : List UInt8).toArray⟩ := rfl
theorem lnot : (⟨#[110, 111, 116, 32]⟩ : ByteArray) = ⟨([110, 111, 116, 32] : List UInt8).toArray⟩ := rfl
theorem tail_any (span : List UInt8) (hl : span.length ≤ 65536) (ok b : Bool) (t : S50) : ∃ r m, Ev (fun k => tailF k ⟨span.toArray⟩ ok b t) (r, m) ∧ (m = true → Good r) := by
  have hc := cut_len span [46, 46]
  have hs : (⟨(Lib.cut span [46, 46]).1.toArray⟩ : ByteArray).size ≤ 281474976710656 ∧ (⟨(Lib.cut span [46, 46]).2.1.toArray⟩ : ByteArray).size ≤ 281474976710656 := by rw [mk_size, mk_size]; omega
  have e := Cut_eq span [46, 46] (by omega)
  generalize (⟨(Lib.cut span [46, 46]).1.toArray⟩ : ByteArray) = lo at hs e
  generalize (⟨(Lib.cut span [46, 46]).2.1.toArray⟩ : ByteArray) = hi at hs e
  generalize (Lib.cut span [46, 46]).2.2 = two at e
  by_cases h1 : (ok && two) = true
  · by_cases h2 : ((b || cntB lo) || cntB hi) = true
    · refine ⟨_, false, Ev.eqn (g := fun _ => some (⟨t.f0, t.f1, t.f2, t.f3, t.f4, cntN lo, cntN hi⟩, false)) (fun K => ?_) Ev.pure, by simp⟩
      unfold tailF
      rw [l46, e, Option.bind_some, if_pos hs, if_pos h1, if_pos h2]
    · refine ⟨⟨t.f0, t.f1, t.f2, t.f3, t.f4, cntN lo, cntN hi⟩, mayB ⟨t.f0, t.f1, t.f2, t.f3, t.f4, cntN lo, cntN hi⟩, Ev.eqn (fun K => ?_) (Ev.bind_ (g := fun _ m => some ((⟨t.f0, t.f1, t.f2, t.f3, t.f4, cntN lo, cntN hi⟩ : S50), m)) (may_ev ⟨t.f0, t.f1, t.f2, t.f3, t.f4, cntN lo, cntN hi⟩) Ev.pure), fun h => ⟨h, (cntN_bd lo).1⟩⟩
      unfold tailF
      rw [l46, e, Option.bind_some, if_pos hs, if_pos h1, if_neg h2]
  · refine ⟨_, false, Ev.eqn (g := fun _ => some (⟨t.f0, t.f1, t.f2, t.f3, t.f4, cntN lo, cntN hi⟩, false)) (fun K => ?_) Ev.pure, by simp⟩
    unfold tailF
    rw [l46, e, Option.bind_some, if_pos hs, if_neg h1]
theorem bytes_any (what span : List UInt8) (hw : what.length ≤ 65536) (hl : span.length ≤ 65536) (ok : Bool) (kind : Int) (nt : Bool) : ∃ r m, Ev (fun k => bytesF k ⟨what.toArray⟩ ⟨span.toArray⟩ ok kind nt) (r, m) ∧ (m = true → Good r) := by
  have h1 := cut_len what [64]
  have e1 := Cut_eq what [64] (by omega)
  generalize (Lib.cut what [64]).1 = a at h1 e1
  generalize (Lib.cut what [64]).2.1 = p at h1 e1
  generalize (Lib.cut what [64]).2.2 = two at e1
  have h2 := cut_len p [47]
  have e2 := Cut_eq p [47] (by omega)
  generalize (Lib.cut p [47]).1 = b at h2 e2
  generalize (Lib.cut p [47]).2.1 = m at h2 e2
  generalize (Lib.cut p [47]).2.2 = some_ at e2
  have e3 := TrimPrefix_eq a [117]
  obtain ⟨z, hz, hzl⟩ : ∃ z : List UInt8, strings_TrimPrefix.f ⟨a.toArray⟩ ⟨([117] : List UInt8).toArray⟩ = some ⟨z.toArray⟩ ∧ z.length ≤ a.length := by
    rw [e3]
    split
    · exact ⟨_, rfl, by rw [List.length_drop]; omega⟩
    · exact ⟨_, rfl, Nat.le_refl _⟩
  have hs : (⟨z.toArray⟩ : ByteArray).size ≤ 281474976710656 ∧ (⟨b.toArray⟩ : ByteArray).size ≤ 281474976710656 ∧ (⟨m.toArray⟩ : ByteArray).size ≤ 281474976710656 := by rw [mk_size, mk_size, mk_size]; omega
  by_cases c1 : some_ = true
  · obtain ⟨r, q, hev, hq⟩ := tail_any span hl (ok && two) ((cntB ⟨z.toArray⟩ || cntB ⟨b.toArray⟩) || cntB ⟨m.toArray⟩) ⟨nt, kind, atV (cntN ⟨b.toArray⟩), sizeV (cntN ⟨z.toArray⟩), cntN ⟨m.toArray⟩, 0, 0⟩
    refine ⟨r, q, Ev.eqn (fun K => ?_) hev, hq⟩
    unfold bytesF
    rw [l64, l47, l117, e1, Option.bind_some, e2, Option.bind_some, hz, Option.bind_some, if_pos hs, if_pos c1]
  · by_cases c2 : 1 ≤ sizeV (cntN ⟨z.toArray⟩) ∧ sizeV (cntN ⟨z.toArray⟩) ≤ 8
    · obtain ⟨r, q, hev, hq⟩ := tail_any span hl (ok && two) (cntB ⟨z.toArray⟩ || cntB ⟨b.toArray⟩) ⟨nt, kind, atV (cntN ⟨b.toArray⟩), sizeV (cntN ⟨z.toArray⟩), fullV (sizeV (cntN ⟨z.toArray⟩)), 0, 0⟩
      refine ⟨r, q, Ev.eqn (fun K => ?_) hev, hq⟩
      unfold bytesF
      rw [l64, l47, l117, e1, Option.bind_some, e2, Option.bind_some, hz, Option.bind_some, if_pos hs, if_neg c1, if_pos c2, full_eq c2.1 c2.2, Option.bind_some]
    · obtain ⟨r, q, hev, hq⟩ := tail_any span hl (ok && two) (cntB ⟨z.toArray⟩ || cntB ⟨b.toArray⟩) ⟨nt, kind, atV (cntN ⟨b.toArray⟩), sizeV (cntN ⟨z.toArray⟩), 0, 0, 0⟩
      refine ⟨r, q, Ev.eqn (fun K => ?_) hev, hq⟩
      unfold bytesF
      rw [l64, l47, l117, e1, Option.bind_some, e2, Option.bind_some, hz, Option.bind_some, if_pos hs, if_neg c1, if_neg c2]
theorem rest_any (what span : List UInt8) (hw : what.length ≤ 65536) (hl : span.length ≤ 65536) (ok : Bool) (kind : Int) (nt : Bool) : ∃ r m, Ev (fun k => restF k ⟨what.toArray⟩ ⟨span.toArray⟩ ok kind nt) (r, m) ∧ (m = true → Good r) := by
  by_cases h : kind ≥ 3
  · obtain ⟨r, q, hev, hq⟩ := bytes_any what span hw hl ok kind nt
    exact ⟨r, q, Ev.eqn (fun K => by unfold restF; rw [if_pos h]) hev, hq⟩
  · obtain ⟨r, q, hev, hq⟩ := tail_any span hl ok false ⟨nt, kind, 0, 0, 0, 0, 0⟩
    exact ⟨r, q, Ev.eqn (fun K => by unfold restF; rw [if_neg h]) hev, hq⟩
theorem test_any (s : List UInt8) (hs : s.length ≤ 65536) : ∃ r m, Ev (fun k => testF k ⟨s.toArray⟩) (r, m) ∧ (m = true → Good r) := by
  obtain ⟨s1, nt, e0, h0⟩ : ∃ (s1 : List UInt8) (nt : Bool), strings_CutPrefix.f ⟨s.toArray⟩ ⟨([110, 111, 116, 32] : List UInt8).toArray⟩ = some (⟨s1.toArray⟩, nt) ∧ s1.length ≤ s.length := by
    rw [CutPrefix_eq]
    split
    · exact ⟨_, _, rfl, by rw [List.length_drop]; omega⟩
    · exact ⟨_, _, rfl, Nat.le_refl _⟩
  have h1 := cut_len s1 [32]
  have e1 := Cut_eq s1 [32] (by omega)
  generalize (Lib.cut s1 [32]).1 = a at h1 e1
  generalize (Lib.cut s1 [32]).2.1 = p at h1 e1
  generalize (Lib.cut s1 [32]).2.2 = ok at e1
  have h2 := cut_len p [32]
  have e2 := Cut_eq p [32] (by omega)
  by_cases c1 : a = [108, 101, 110]
  · obtain ⟨r, q, hev, hq⟩ := rest_any a p (by omega) (by omega) ok 1 nt
    refine ⟨r, q, Ev.eqn (fun K => ?_) hev, hq⟩
    unfold testF
    rw [lnot, l32, e0, Option.bind_some, e1, Option.bind_some, if_pos (by rw [mk_list]; exact c1)]
  · by_cases c2 : a = [105, 110]
    · obtain ⟨r, q, hev, hq⟩ := rest_any a p (by omega) (by omega) ok 2 nt
      refine ⟨r, q, Ev.eqn (fun K => ?_) hev, hq⟩
      unfold testF
      rw [lnot, l32, e0, Option.bind_some, e1, Option.bind_some, if_neg (by rw [mk_list]; exact c1), if_pos (by rw [mk_list]; exact c2)]
    · by_cases c3 : a = [112, 97, 115, 116]
      · obtain ⟨r, q, hev, hq⟩ := rest_any (Lib.cut p [32]).1 (Lib.cut p [32]).2.1 (by omega) (by omega) (Lib.cut p [32]).2.2 4 nt
        refine ⟨r, q, Ev.eqn (fun K => ?_) hev, hq⟩
        unfold testF
        rw [lnot, l32, e0, Option.bind_some, e1, Option.bind_some, if_neg (by rw [mk_list]; exact c1), if_neg (by rw [mk_list]; exact c2), if_pos (by rw [mk_list]; exact c3), e2, Option.bind_some]
      · obtain ⟨r, q, hev, hq⟩ := rest_any a p (by omega) (by omega) ok 3 nt
        refine ⟨r, q, Ev.eqn (fun K => ?_) hev, hq⟩
        unfold testF
        rw [lnot, l32, e0, Option.bind_some, e1, Option.bind_some, if_neg (by rw [mk_list]; exact c1), if_neg (by rw [mk_list]; exact c2), if_neg (by rw [mk_list]; exact c3)]

/-! a printed test is read back -/
theorem dg_not {c : UInt8} {n : Int} (h : ¬ IsDig c) : c ∉ dg n := fun hm => h (dg_dig c hm)
theorem n46 : ¬ IsDig 46 := by unfold IsDig; decide
theorem n47 : ¬ IsDig 47 := by unfold IsDig; decide
theorem n64 : ¬ IsDig 64 := by unfold IsDig; decide
theorem n32 : ¬ IsDig 32 := by unfold IsDig; decide
theorem n44 : ¬ IsDig 44 := by unfold IsDig; decide
theorem n45 : ¬ IsDig 45 := by unfold IsDig; decide
theorem n10 : ¬ IsDig 10 := by unfold IsDig; decide
theorem dg_size {n : Int} (h0 : 0 ≤ n) (h1 : n < 18446744073709551616) : (⟨(dg n).toArray⟩ : ByteArray).size ≤ 281474976710656 := by
  have := (dg_len h0 h1).2
  rw [mk_size]; omega
theorem cut_span (t : S50) : Lib.cut (spanL t) [46, 46] = (dg t.f5, dg t.f6, true) := by
  have : spanL t = dg t.f5 ++ ([46, 46] ++ dg t.f6) := rfl
  rw [this]
  exact cut_at (no_occ (c := 46) rfl (dg_not n46))
theorem spanL_len {t : S50} (h : Good t) : (spanL t).length ≤ 42 := by
  obtain ⟨r5, r56, r6, hk⟩ := h.ranges
  have d5 := dg_len r5 (by omega)
  have d6 := dg_len (n := t.f6) (by omega) r6
  unfold spanL
  simp only [List.length_append, List.length_cons]; omega
theorem tail_text (t : S50) (h : Good t) (x y : Int) : Ev (fun k => tailF k ⟨(spanL t).toArray⟩ true false ⟨t.f0, t.f1, t.f2, t.f3, t.f4, x, y⟩) (t, true) := by
  obtain ⟨r5, r56, r6, hk⟩ := h.ranges
  have e := Cut_eq (spanL t) [46, 46] (by have := spanL_len h; omega)
  rw [cut_span] at e
  have hm := may_ev t
  rw [h.1] at hm
  refine Ev.eqn (fun K => ?_) (Ev.bind_ hm (f := fun K => rule_may.f K t.f0 t.f1 t.f2 t.f3 t.f4 t.f5 t.f6) (g := fun _ m => some (t, m)) Ev.pure)
  unfold tailF
  rw [l46, e, Option.bind_some]
  dsimp only
  rw [if_pos ⟨dg_size r5 (by omega), dg_size (by omega) r6⟩, cntB_dg r5 (by omega), cntB_dg (by omega) r6, cntN_dg r5 (by omega), cntN_dg (by omega) r6]
  rfl
def whatL (t : S50) : List UInt8 := 117 :: (dg (8 * t.f3) ++ 64 :: (dg t.f2 ++ maskL t))
theorem size_back {s : Int} (h : s = 1 ∨ s = 2 ∨ s = 4 ∨ s = 8) : sizeV (8 * s) = s := by
  rcases h with rfl | rfl | rfl | rfl <;> decide +kernel
theorem bytes_text (t : S50) (h : Good t) (h3 : t.f1 ≥ 3) : Ev (fun k => bytesF k ⟨(whatL t).toArray⟩ ⟨(spanL t).toArray⟩ true t.f1 t.f0) (t, true) := by
  obtain ⟨r5, r56, r6, hk⟩ := h.ranges
  obtain ⟨_, hs, ha, hb, hc, hd, he⟩ := hk.resolve_left (by omega) |>.resolve_left (by omega)
  have d8 := dg_len (n := 8 * t.f3) (by omega) (by omega)
  have d2 := dg_len (n := t.f2) (by omega) (by omega)
  have d4 := dg_len (n := t.f4) (by omega) he
  have dm : (maskL t).length ≤ 21 := by unfold maskL; split <;> simp <;> omega
  have e1 := Cut_eq (whatL t) [64] (by unfold whatL; simp only [List.length_cons, List.length_append]; omega)
  have c1 : Lib.cut (whatL t) [64] = (117 :: dg (8 * t.f3), dg t.f2 ++ maskL t, true) := by
    have : whatL t = (117 :: dg (8 * t.f3)) ++ ([64] ++ (dg t.f2 ++ maskL t)) := rfl
    rw [this]
    refine cut_at (no_occ (c := 64) rfl ?_)
    simp only [List.mem_cons, not_or]
    exact ⟨by decide, dg_not n64⟩
  rw [c1] at e1
  have e2 := Cut_eq (dg t.f2 ++ maskL t) [47] (by rw [List.length_append]; omega)
  have e3 := TrimPrefix_eq (117 :: dg (8 * t.f3)) [117]
  rw [if_pos (show hasP (117 :: dg (8 * t.f3)) [117] = true from hasP_app [117] (dg (8 * t.f3)))] at e3
  have e3' : strings_TrimPrefix.f ⟨(117 :: dg (8 * t.f3)).toArray⟩ ⟨([117] : List UInt8).toArray⟩ = some ⟨(dg (8 * t.f3)).toArray⟩ := e3
  have cz := cntN_dg (n := 8 * t.f3) (by omega) (by omega)
  have bz := cntB_dg (n := 8 * t.f3) (by omega) (by omega)
  have ca := cntN_dg (n := t.f2) (by omega) (by omega)
  have ba := cntB_dg (n := t.f2) (by omega) (by omega)
  have ea : atV t.f2 = t.f2 := by unfold atV; rw [if_neg (by omega)]
  have sz := dg_size (n := 8 * t.f3) (by omega) (by omega)
  have sa := dg_size (n := t.f2) (by omega) (by omega)
  by_cases hm : t.f4 = fullV t.f3
  · have c2 : Lib.cut (dg t.f2 ++ maskL t) [47] = (dg t.f2, [], false) := by
      unfold maskL
      rw [if_pos hm, List.append_nil]
      exact cut_none (c := 47) (by simp) (dg_not n47)
    rw [c2] at e2
    refine Ev.eqn (fun K => ?_) (tail_text t h 0 0)
    unfold bytesF
    rw [l64, l47, l117, e1, Option.bind_some]
    dsimp only
    rw [e2, Option.bind_some, e3', Option.bind_some]
    dsimp only
    rw [if_pos ⟨sz, sa, by decide⟩, if_neg (by simp), cz, size_back hs, if_pos (by omega), full_eq (by omega) (by omega), Option.bind_some, bz, ca, ba, ea, ← hm]
    rfl
  · have c2 : Lib.cut (dg t.f2 ++ maskL t) [47] = (dg t.f2, dg t.f4, true) := by
      unfold maskL
      rw [if_neg hm]
      exact cut_at (A := dg t.f2) (sep := [47]) (B := dg t.f4) (no_occ (c := 47) rfl (dg_not n47))
    rw [c2] at e2
    have cm := cntN_dg (n := t.f4) (by omega) he
    have bm := cntB_dg (n := t.f4) (by omega) he
    refine Ev.eqn (fun K => ?_) (tail_text t h 0 0)
    unfold bytesF
    rw [l64, l47, l117, e1, Option.bind_some]
    dsimp only
    rw [e2, Option.bind_some, e3', Option.bind_some]
    dsimp only
    rw [if_pos ⟨sz, sa, dg_size (by omega) he⟩, if_pos rfl, cz, size_back hs, bz, ca, ba, ea, cm, bm]
    rfl
theorem whatL_no {t : S50} : (32 : UInt8) ∉ whatL t := by
  unfold whatL maskL
  simp only [List.mem_cons, List.mem_append, not_or]
  refine ⟨by decide, dg_not n32, by decide, dg_not n32, ?_⟩
  split
  · simp
  · simp only [List.mem_cons, not_or]; exact ⟨by decide, dg_not n32⟩
theorem whatL_len {t : S50} (h : Good t) (h3 : t.f1 ≥ 3) : (whatL t).length ≤ 80 := by
  obtain ⟨r5, r56, r6, hk⟩ := h.ranges
  obtain ⟨_, hs, ha, hb, hc, hd, he⟩ := hk.resolve_left (by omega) |>.resolve_left (by omega)
  have d8 := dg_len (n := 8 * t.f3) (by omega) (by omega)
  have d2 := dg_len (n := t.f2) (by omega) (by omega)
  have d4 := dg_len (n := t.f4) (by omega) he
  have dm : (maskL t).length ≤ 21 := by unfold maskL; split <;> simp <;> omega
  unfold whatL
  simp only [List.length_cons, List.length_append]; omega
theorem head_first (t : S50) (h : Good t) : ∃ c r, headL t = c :: r ∧ c ≠ 110 ∧ c ≠ 97 := by
  obtain ⟨r5, r56, r6, hk⟩ := h.ranges
  have kinds : t.f1 = 1 ∨ t.f1 = 2 ∨ t.f1 = 3 ∨ t.f1 = 4 := by omega
  unfold headL wordL
  rcases kinds with h | h | h | h <;> rw [h]
  · exact ⟨_, _, rfl, by decide, by decide⟩
  · exact ⟨_, _, rfl, by decide, by decide⟩
  · exact ⟨_, _, rfl, by decide, by decide⟩
  · exact ⟨_, _, rfl, by decide, by decide⟩
theorem test_text (t : S50) (h : Good t) : Ev (fun k => testF k ⟨(textL t).toArray⟩) (t, true) := by
  obtain ⟨r5, r56, r6, hk⟩ := h.ranges
  have kinds : t.f1 = 1 ∨ t.f1 = 2 ∨ t.f1 = 3 ∨ t.f1 = 4 := by omega
  have hsp := spanL_len h
  have e0 : strings_CutPrefix.f ⟨(textL t).toArray⟩ ⟨([110, 111, 116, 32] : List UInt8).toArray⟩ = some (⟨(headL t ++ 32 :: spanL t).toArray⟩, t.f0) := by
    rw [CutPrefix_eq]
    unfold textL notL
    cases hn : t.f0 with
    | true => rw [if_pos rfl, if_pos (hasP_app _ _)]; rfl
    | false =>
      obtain ⟨c, r, hc, hne, _⟩ := head_first t h
      have e : hasP (headL t ++ 32 :: spanL t) [110, 111, 116, 32] = false := by rw [hc]; exact hasP_head hne
      simp only [Bool.false_eq_true, if_false, List.nil_append, e]
  have rest_bytes : t.f1 ≥ 3 → Ev (fun k => restF k ⟨(whatL t).toArray⟩ ⟨(spanL t).toArray⟩ true t.f1 t.f0) (t, true) := fun h3 => Ev.eqn (fun K => by unfold restF; rw [if_pos h3]) (bytes_text t h h3)
  have rest_tail : t.f1 = 1 ∨ t.f1 = 2 → ∀ w, Ev (fun k => restF k w ⟨(spanL t).toArray⟩ true t.f1 t.f0) (t, true) := fun h12 w => by
    have hz : t.f2 = 0 ∧ t.f3 = 0 ∧ t.f4 = 0 := by
      obtain ⟨_, hk | hk⟩ := mayP h.1
      · exact ⟨hk.2.1, hk.2.2.1, hk.2.2.2.1⟩
      · omega
    have := tail_text t h 0 0
    rw [hz.1, hz.2.1, hz.2.2] at this
    exact Ev.eqn (fun K => by unfold restF; rw [if_neg (by omega)]) this
  have wl : (headL t).length ≤ 90 := by
    have := (textL_len t h).2
    have hw : (wordL t.f1).length ≤ 5 := by unfold wordL; split; simp; split; simp; split <;> simp
    unfold headL
    by_cases h3 : t.f1 ≥ 3
    · have := whatL_len h h3
      unfold whatL at this
      rw [if_pos h3, List.length_append]; omega
    · rw [if_neg h3, List.append_nil]; omega
  have e1 := Cut_eq (headL t ++ 32 :: spanL t) [32] (by rw [List.length_append, List.length_cons]; omega)
  rcases kinds with hq | hq | hq | hq
  · have hh : headL t = [108, 101, 110] := by unfold headL wordL; rw [hq]; rfl
    have c1 : Lib.cut (headL t ++ 32 :: spanL t) [32] = ([108, 101, 110], spanL t, true) := by
      rw [hh]; exact cut_at (A := [108, 101, 110]) (sep := [32]) (no_occ (c := 32) rfl (by decide))
    rw [c1] at e1
    have := rest_tail (.inl hq) ⟨([108, 101, 110] : List UInt8).toArray⟩
    rw [hq] at this
    refine Ev.eqn (fun K => ?_) this
    unfold testF
    rw [lnot, l32, e0, Option.bind_some, e1, Option.bind_some, if_pos (by rw [mk_list])]
  · have hh : headL t = [105, 110] := by unfold headL wordL; rw [hq]; rfl
    have c1 : Lib.cut (headL t ++ 32 :: spanL t) [32] = ([105, 110], spanL t, true) := by
      rw [hh]; exact cut_at (A := [105, 110]) (sep := [32]) (no_occ (c := 32) rfl (by decide))
    rw [c1] at e1
    have := rest_tail (.inr hq) ⟨([105, 110] : List UInt8).toArray⟩
    rw [hq] at this
    refine Ev.eqn (fun K => ?_) this
    unfold testF
    rw [lnot, l32, e0, Option.bind_some, e1, Option.bind_some, if_neg (by rw [mk_list]; simp), if_pos (by rw [mk_list])]
  · have hh : headL t = whatL t := by unfold headL wordL whatL; rw [hq]; rfl
    have c1 : Lib.cut (headL t ++ 32 :: spanL t) [32] = (whatL t, spanL t, true) := by
      rw [hh]; exact cut_at (A := whatL t) (sep := [32]) (no_occ (c := 32) rfl whatL_no)
    rw [c1] at e1
    have := rest_bytes (by omega)
    rw [hq] at this
    refine Ev.eqn (fun K => ?_) this
    unfold testF
    rw [lnot, l32, e0, Option.bind_some, e1, Option.bind_some, if_neg (by rw [mk_list]; unfold whatL; simp), if_neg (by rw [mk_list]; unfold whatL; simp), if_neg (by rw [mk_list]; unfold whatL; simp)]
  · have hh : headL t ++ 32 :: spanL t = [112, 97, 115, 116] ++ ([32] ++ (whatL t ++ ([32] ++ spanL t))) := by unfold headL wordL whatL; rw [hq]; simp
    have c1 : Lib.cut (headL t ++ 32 :: spanL t) [32] = ([112, 97, 115, 116], whatL t ++ ([32] ++ spanL t), true) := by
      rw [hh]; exact cut_at (no_occ (c := 32) rfl (by decide))
    have wlen := whatL_len h (by omega)
    have e2 := Cut_eq (whatL t ++ ([32] ++ spanL t)) [32] (by simp only [List.length_append, List.length_cons, List.length_nil]; omega)
    have c2 : Lib.cut (whatL t ++ ([32] ++ spanL t)) [32] = (whatL t, spanL t, true) := cut_at (no_occ (c := 32) rfl whatL_no)
    rw [c1] at e1
    rw [c2] at e2
    have := rest_bytes (by omega)
    rw [hq] at this
    refine Ev.eqn (fun K => ?_) this
    unfold testF
    rw [lnot, l32, e0, Option.bind_some, e1, Option.bind_some, if_neg (by rw [mk_list]; simp), if_neg (by rw [mk_list]; simp), if_pos (by rw [mk_list]), e2, Option.bind_some]
end Go.Proofs.YtighficpbplkhaaDoor.Pure

/- Chapter 18, plain: the document's reader takes a test. No conditions but the ones each theorem names. -/
namespace Go.Proofs.YtighficpbplkhaaDoor.Pure
open Go.RowKit Go.Proofs.YtighficpbplkhaaDoorW.PrintWords Go.Proofs.YtighficpbplkhaaDoorW.PrintLast Go.Proofs.YtighficpbplkhaaDoorW.PrintMore Go.Proofs.YtighficpbplkhaaDoor.P
set_option linter.unusedVariables false
set_option linter.unusedSimpArgs false

theorem full8 : Ev (fun k => stockaderef18_Full.f k 8) 18446744073709551615 := Ev.eq_ 9 (fun k => refFull_eq (by omega) (by omega) k)
theorem full_ev {s : Int} (h0 : 0 ≤ s) (h1 : s ≤ 8) : Ev (fun k => stockaderef18_Full.f k s) (fullV s) := Ev.eq_ 9 (fun k => refFull_eq h0 h1 k)
theorem must_any (s w : List UInt8) (hs : s.length ≤ 65536) (hw : w.length ≤ 100) (a : Nat) (ha : a ≤ s.length) (b : Bool) :
    ∃ (a2 : Nat) (b2 : Bool), stockaderef18_reader_must.f ⟨s.toArray⟩ a b ⟨w.toArray⟩ = some (⟨s.toArray⟩, (a2 : Int), b2) ∧ a ≤ a2 ∧ a2 ≤ s.length ∧ (b2 = false → b = false ∧ s.drop a = w ++ s.drop a2) := by
  rw [must_eq s w a b ha hs hw]
  by_cases h : hasP (s.drop a) w = true
  · rw [if_pos h]
    obtain ⟨h1, h2⟩ := drop_at ha h
    exact ⟨a + w.length, b, rfl, by omega, h2, fun hb => ⟨hb, h1⟩⟩
  · rw [if_neg h]
    exact ⟨a, true, rfl, Nat.le_refl _, ha, by simp⟩
theorem must_text (s w r : List UInt8) (hs : s.length ≤ 65536) (hw : w.length ≤ 100) (a : Nat) (ha : a ≤ s.length) (h : s.drop a = w ++ r) :
    stockaderef18_reader_must.f ⟨s.toArray⟩ a false ⟨w.toArray⟩ = some (⟨s.toArray⟩, ((a + w.length : Nat) : Int), false) ∧ s.drop (a + w.length) = r ∧ a + w.length ≤ s.length := by
  have hp : hasP (s.drop a) w = true := by rw [h]; exact hasP_app w r
  obtain ⟨h1, h2⟩ := drop_at ha hp
  rw [must_eq s w a false ha hs hw, if_pos hp]
  refine ⟨rfl, ?_, h2⟩
  rw [h] at h1
  exact (List.append_cancel_left h1).symm
theorem has_any (s w : List UInt8) (hs : s.length ≤ 65536) (hw : w.length ≤ 100) (a : Nat) (ha : a ≤ s.length) (b : Bool) :
    ∃ (h : Bool) (a2 : Nat), stockaderef18_reader_has.f ⟨s.toArray⟩ a b ⟨w.toArray⟩ = some (h, ⟨s.toArray⟩, (a2 : Int), b) ∧ a ≤ a2 ∧ a2 ≤ s.length ∧ s.drop a = (if h = true then w else []) ++ s.drop a2 := by
  rw [has_eq s w a b ha hs hw]
  by_cases h : hasP (s.drop a) w = true
  · rw [if_pos h]
    obtain ⟨h1, h2⟩ := drop_at ha h
    exact ⟨true, a + w.length, rfl, by omega, h2, h1⟩
  · rw [if_neg h]
    exact ⟨false, a, rfl, Nat.le_refl _, ha, rfl⟩
theorem has_yes (s w r : List UInt8) (hs : s.length ≤ 65536) (hw : w.length ≤ 100) (a : Nat) (ha : a ≤ s.length) (b : Bool) (h : s.drop a = w ++ r) :
    stockaderef18_reader_has.f ⟨s.toArray⟩ a b ⟨w.toArray⟩ = some (true, ⟨s.toArray⟩, ((a + w.length : Nat) : Int), b) ∧ s.drop (a + w.length) = r ∧ a + w.length ≤ s.length := by
  have hp : hasP (s.drop a) w = true := by rw [h]; exact hasP_app w r
  obtain ⟨h1, h2⟩ := drop_at ha hp
  rw [has_eq s w a b ha hs hw, if_pos hp]
  refine ⟨rfl, ?_, h2⟩
  rw [h] at h1
  exact (List.append_cancel_left h1).symm
theorem has_no (s w : List UInt8) (hs : s.length ≤ 65536) (hw : w.length ≤ 100) (a : Nat) (ha : a ≤ s.length) (b : Bool) (h : hasP (s.drop a) w = false) :
    stockaderef18_reader_has.f ⟨s.toArray⟩ a b ⟨w.toArray⟩ = some (false, ⟨s.toArray⟩, (a : Int), b) := by
  rw [has_eq s w a b ha hs hw, h]; rfl
theorem nodig_cons {c : UInt8} {l : List UInt8} (h : ¬ IsDig c) : NoDig (c :: l) := fun x y e => by
  injection e with e1 _
  rw [← e1]; exact h
def endL (lo hi : Int) : List UInt8 := dg lo ++ 46 :: 46 :: dg hi
theorem j2_any (s : List UInt8) (hs : s.length ≤ 65536) (x0 : Bool) (x1 x2 x3 x4 x5 x6 : Int) (a : Nat) (ha : a ≤ s.length) (bad : Bool) :
    ∃ (lo hi : Int) (a' : Nat) (b : Bool), Ev (fun k => stockaderef18_reader_test.j2 k ⟨s.toArray⟩ a bad x0 x1 x2 x3 x4 x5 x6) (x0, x1, x2, x3, x4, lo, hi, ⟨s.toArray⟩, (a' : Int), b) ∧ a ≤ a' ∧ a' ≤ s.length ∧ (b = false → bad = false ∧ Good ⟨x0, x1, x2, x3, x4, lo, hi⟩ ∧ s.drop a = endL lo hi ++ s.drop a') := by
  obtain ⟨lo, a1, b1, e1, p1, q1, r1, r1', s1⟩ := number_any s hs 18446744073709551615 (by omega) (by omega) a ha bad
  obtain ⟨a2, b2, e2, p2, q2, s2⟩ := must_any s [46, 46] hs (by decide) a1 q1 b1
  obtain ⟨hi, a3, b3, e3, p3, q3, r3, r3', s3⟩ := number_any s hs 18446744073709551615 (by omega) (by omega) a2 q2 b2
  have go : ∀ R, Ev (fun k => if b3 = true then some (x0, x1, x2, x3, x4, lo, hi, (⟨s.toArray⟩ : ByteArray), (a3 : Int), true) else (stockaderef18_May.f k x0 x1 x2 x3 x4 lo hi).bind fun t => some (x0, x1, x2, x3, x4, lo, hi, (⟨s.toArray⟩ : ByteArray), (a3 : Int), !t)) R → Ev (fun k => stockaderef18_reader_test.j2 k ⟨s.toArray⟩ a bad x0 x1 x2 x3 x4 x5 x6) R := fun R hR => by
    refine Ev.step_ (fun K => by rw [stockaderef18_reader_test.j2]) (Ev.bind_ full8 (Ev.bind_ e1 ?_))
    dsimp only
    rw [l46, e2]
    simp only [Option.bind_some]
    refine Ev.bind_ full8 (Ev.bind_ e3 ?_)
    exact hR
  cases b3 with
  | true => exact ⟨lo, hi, a3, true, go _ (Ev.eqn (fun K => if_pos rfl) Ev.pure), by omega, q3, by simp⟩
  | false =>
    obtain ⟨hb2, h3⟩ := s3 rfl
    obtain ⟨hb1, h2⟩ := s2 hb2
    obtain ⟨hb, h1⟩ := s1 hb1
    refine ⟨lo, hi, a3, !mayB ⟨x0, x1, x2, x3, x4, lo, hi⟩, go _ (Ev.eqn (fun K => if_neg (by simp)) (Ev.bind_ (refMay_ev ⟨x0, x1, x2, x3, x4, lo, hi⟩) Ev.pure)), by omega, q3, fun h => ⟨hb, ⟨by simpa using h, r1⟩, ?_⟩⟩
    rw [h1, h2, h3]
    simp [endL]
theorem j2_text (s r : List UInt8) (hs : s.length ≤ 65536) (t : S50) (hg : Good t) (x5 x6 : Int) (a : Nat) (ha : a ≤ s.length) (h : s.drop a = spanL t ++ r) (hr : NoDig r) :
    Ev (fun k => stockaderef18_reader_test.j2 k ⟨s.toArray⟩ a false t.f0 t.f1 t.f2 t.f3 t.f4 x5 x6) (t.f0, t.f1, t.f2, t.f3, t.f4, t.f5, t.f6, ⟨s.toArray⟩, ((a + (spanL t).length : Nat) : Int), false) := by
  obtain ⟨r5, r56, r6, hk⟩ := hg.ranges
  have h1 : s.drop a = dg t.f5 ++ ([46, 46] ++ (dg t.f6 ++ r)) := by rw [h]; simp [spanL]
  have e1 := number_text s hs 18446744073709551615 t.f5 (by omega) r5 (by omega) a ha _ h1 (nodig_cons n46)
  have hl := congrArg List.length h1
  simp only [List.length_drop, List.length_append, List.length_cons, List.length_nil] at hl
  have hd1 : s.drop (a + (dg t.f5).length) = [46, 46] ++ (dg t.f6 ++ r) := by rw [← List.drop_drop, h1, List.drop_left]
  obtain ⟨e2, hd2, l2⟩ := must_text s [46, 46] _ hs (by decide) (a + (dg t.f5).length) (by omega) hd1
  have e3 := number_text s hs 18446744073709551615 t.f6 (by omega) (by omega) (by omega) _ l2 r hd2 hr
  have hm := refMay_ev t
  rw [hg.1] at hm
  refine Ev.step_ (fun K => by rw [stockaderef18_reader_test.j2]) (Ev.bind_ full8 (Ev.bind_ e1 ?_))
  dsimp only
  rw [l46, e2]
  simp only [Option.bind_some]
  refine Ev.bind_ full8 (Ev.bind_ e3 (Ev.eqn (fun K => if_neg (by simp)) (Ev.bind_ hm ?_)))
  have el : a + (dg t.f5).length + ([46, 46] : List UInt8).length + (dg t.f6).length = a + (spanL t).length := by simp [spanL]; omega
  rw [el]
  exact Ev.pure
def midL (t : S50) : List UInt8 := 64 :: (dg t.f2 ++ maskL t)
theorem j1_any (s : List UInt8) (hs : s.length ≤ 65536) (x0 : Bool) (x1 x2 x3 x4 x5 x6 : Int) (h30 : 0 ≤ x3) (h38 : x3 ≤ 8) (a : Nat) (ha : a ≤ s.length) (bad : Bool) :
    ∃ (t : S50) (a' : Nat) (b : Bool), t.f0 = x0 ∧ t.f1 = x1 ∧ t.f3 = x3 ∧ Ev (fun k => stockaderef18_reader_test.j1 k ⟨s.toArray⟩ a bad x0 x1 x2 x3 x4 x5 x6) (t.f0, t.f1, t.f2, t.f3, t.f4, t.f5, t.f6, ⟨s.toArray⟩, (a' : Int), b) ∧ a ≤ a' ∧ a' ≤ s.length ∧ (b = false → bad = false ∧ Good t ∧ s.drop a = (midL t ++ 32 :: spanL t) ++ s.drop a') := by
  obtain ⟨a1, b1, e1, p1, q1, s1⟩ := must_any s [64] hs (by decide) a ha bad
  obtain ⟨v, a2, b2, e2, p2, q2, r2, r2', s2⟩ := number_any s hs 255 (by omega) (by omega) a1 q1 b1
  obtain ⟨h, a3, e3, p3, q3, s3⟩ := has_any s [47] hs (by decide) a2 q2 b2
  have wv : wrap64 v = v := w64 (by omega) (by omega)
  have start : ∀ R, Ev (fun k => if h = true then (stockaderef18_Full.f k 8).bind fun t446 => (stockaderef18_reader_number.f k ⟨s.toArray⟩ a3 b2 t446).bind fun bt447 => if bt447.2.2.2 = true then (stockaderef18_reader_must.f bt447.2.1 bt447.2.2.1 true ⟨#[32]⟩).bind fun bt451 => stockaderef18_reader_test.j2 k bt451.1 bt451.2.1 bt451.2.2 x0 x1 v x3 bt447.1 x5 x6 else (stockaderef18_Full.f k x3).bind fun t454 => (stockaderef18_reader_must.f bt447.2.1 bt447.2.2.1 (decide (bt447.1 ≥ t454)) ⟨#[32]⟩).bind fun bt455 => stockaderef18_reader_test.j2 k bt455.1 bt455.2.1 bt455.2.2 x0 x1 v x3 bt447.1 x5 x6
        else (stockaderef18_reader_must.f ⟨s.toArray⟩ a3 b2 ⟨#[32]⟩).bind fun bt458 => stockaderef18_reader_test.j2 k bt458.1 bt458.2.1 bt458.2.2 x0 x1 v x3 (fullV x3) x5 x6) R → Ev (fun k => stockaderef18_reader_test.j1 k ⟨s.toArray⟩ a bad x0 x1 x2 x3 x4 x5 x6) R := fun R hR => by
    refine Ev.step_ (fun K => by rw [stockaderef18_reader_test.j1, l64, e1, Option.bind_some]) (Ev.bind_ e2 (Ev.bind_ (full_ev h30 h38) ?_))
    dsimp only
    rw [l47, e3]
    simp only [Option.bind_some, wv]
    exact hR
  cases h with
  | false =>
    obtain ⟨a4, b4, e4, p4, q4, s4⟩ := must_any s [32] hs (by decide) a3 q3 b2
    obtain ⟨lo, hi, a5, b5, e5, p5, q5, s5⟩ := j2_any s hs x0 x1 v x3 (fullV x3) x5 x6 a4 q4 b4
    refine ⟨⟨x0, x1, v, x3, fullV x3, lo, hi⟩, a5, b5, rfl, rfl, rfl, start _ (Ev.eqn (fun K => by rw [if_neg (by simp), l32, e4, Option.bind_some]) e5), by omega, q5, fun hb => ?_⟩
    obtain ⟨hb4, hg, h5⟩ := s5 hb
    obtain ⟨hb2, h4⟩ := s4 hb4
    obtain ⟨hb1, h2⟩ := s2 hb2
    obtain ⟨hb0, h1⟩ := s1 hb1
    refine ⟨hb0, hg, ?_⟩
    rw [h1, h2, s3, h4, h5]
    simp [midL, maskL, spanL, endL]
  | true =>
    obtain ⟨m, a4, b4, e4, p4, q4, r4, r4', s4⟩ := number_any s hs 18446744073709551615 (by omega) (by omega) a3 q3 b2
    cases b4 with
    | true =>
      obtain ⟨a5, b5, e5, p5, q5, s5⟩ := must_any s [32] hs (by decide) a4 q4 true
      obtain ⟨lo, hi, a6, b6, e6, p6, q6, s6⟩ := j2_any s hs x0 x1 v x3 m x5 x6 a5 q5 b5
      refine ⟨⟨x0, x1, v, x3, m, lo, hi⟩, a6, b6, rfl, rfl, rfl, start _ (Ev.eqn (fun K => if_pos rfl) (Ev.bind_ full8 (Ev.bind_ e4 (Ev.eqn (fun K => by rw [if_pos rfl, l32, e5, Option.bind_some]) e6)))), by omega, q6, fun hb => ?_⟩
      obtain ⟨hb5, _, _⟩ := s6 hb
      exact absurd (s5 hb5).1 (by simp)
    | false =>
      obtain ⟨a5, b5, e5, p5, q5, s5⟩ := must_any s [32] hs (by decide) a4 q4 (decide (m ≥ fullV x3))
      obtain ⟨lo, hi, a6, b6, e6, p6, q6, s6⟩ := j2_any s hs x0 x1 v x3 m x5 x6 a5 q5 b5
      refine ⟨⟨x0, x1, v, x3, m, lo, hi⟩, a6, b6, rfl, rfl, rfl, start _ (Ev.eqn (fun K => if_pos rfl) (Ev.bind_ full8 (Ev.bind_ e4 (Ev.eqn (fun K => if_neg (by simp)) (Ev.bind_ (full_ev h30 h38) (Ev.eqn (fun K => by dsimp only; rw [l32, e5, Option.bind_some]) e6)))))), by omega, q6, fun hb => ?_⟩
      obtain ⟨hb5, hg, h6⟩ := s6 hb
      obtain ⟨hm, h5⟩ := s5 hb5
      obtain ⟨hb2, h4⟩ := s4 rfl
      obtain ⟨hb1, h2⟩ := s2 hb2
      obtain ⟨hb0, h1⟩ := s1 hb1
      have hne : ¬ m = fullV x3 := by have := of_decide_eq_false hm; omega
      refine ⟨hb0, hg, ?_⟩
      rw [h1, h2, s3, h4, h5, h6]
      simp [midL, maskL, spanL, endL, hne]
theorem drop_len {s A r : List UInt8} {a : Nat} (ha : a ≤ s.length) (h : s.drop a = A ++ r) : s.drop (a + A.length) = r ∧ a + A.length ≤ s.length := by
  constructor
  · rw [← List.drop_drop, h, List.drop_left]
  · have := congrArg List.length h
    rw [List.length_drop, List.length_append] at this
    omega
theorem j1_text (s r : List UInt8) (hs : s.length ≤ 65536) (t : S50) (hg : Good t) (h3 : t.f1 ≥ 3) (x2 x4 x5 x6 : Int) (a : Nat) (ha : a ≤ s.length) (h : s.drop a = (midL t ++ 32 :: spanL t) ++ r) (hr : NoDig r) :
    Ev (fun k => stockaderef18_reader_test.j1 k ⟨s.toArray⟩ a false t.f0 t.f1 x2 t.f3 x4 x5 x6) (t.f0, t.f1, t.f2, t.f3, t.f4, t.f5, t.f6, ⟨s.toArray⟩, ((a + (midL t ++ 32 :: spanL t).length : Nat) : Int), false) := by
  obtain ⟨r5, r56, r6, hk⟩ := hg.ranges
  obtain ⟨_, hsz, ha0, hb, hc, hd, he⟩ := hk.resolve_left (by omega) |>.resolve_left (by omega)
  have wv : wrap64 t.f2 = t.f2 := w64 (by omega) (by omega)
  have d1 : s.drop a = [64] ++ (dg t.f2 ++ (maskL t ++ 32 :: (spanL t ++ r))) := by rw [h]; simp [midL]
  obtain ⟨e1, d2, l1⟩ := must_text s [64] _ hs (by decide) a ha d1
  have nd : NoDig (maskL t ++ 32 :: (spanL t ++ r)) := by
    unfold maskL
    split
    · exact nodig_cons n32
    · exact nodig_cons n47
  have e2 := number_text s hs 255 t.f2 (by omega) ha0 hb _ l1 _ d2 nd
  obtain ⟨d3, l2⟩ := drop_len l1 d2
  have start : ∀ (hh : Bool) (a3 : Nat) R, stockaderef18_reader_has.f ⟨s.toArray⟩ ((a + ([64] : List UInt8).length + (dg t.f2).length : Nat) : Int) false ⟨([47] : List UInt8).toArray⟩ = some (hh, ⟨s.toArray⟩, (a3 : Int), false) → Ev (fun k => if hh = true then (stockaderef18_Full.f k 8).bind fun t446 => (stockaderef18_reader_number.f k ⟨s.toArray⟩ a3 false t446).bind fun bt447 => if bt447.2.2.2 = true then (stockaderef18_reader_must.f bt447.2.1 bt447.2.2.1 true ⟨#[32]⟩).bind fun bt451 => stockaderef18_reader_test.j2 k bt451.1 bt451.2.1 bt451.2.2 t.f0 t.f1 t.f2 t.f3 bt447.1 x5 x6 else (stockaderef18_Full.f k t.f3).bind fun t454 => (stockaderef18_reader_must.f bt447.2.1 bt447.2.2.1 (decide (bt447.1 ≥ t454)) ⟨#[32]⟩).bind fun bt455 => stockaderef18_reader_test.j2 k bt455.1 bt455.2.1 bt455.2.2 t.f0 t.f1 t.f2 t.f3 bt447.1 x5 x6
        else (stockaderef18_reader_must.f ⟨s.toArray⟩ a3 false ⟨#[32]⟩).bind fun bt458 => stockaderef18_reader_test.j2 k bt458.1 bt458.2.1 bt458.2.2 t.f0 t.f1 t.f2 t.f3 (fullV t.f3) x5 x6) R → Ev (fun k => stockaderef18_reader_test.j1 k ⟨s.toArray⟩ a false t.f0 t.f1 x2 t.f3 x4 x5 x6) R := fun hh a3 R e3 hR => by
    refine Ev.step_ (fun K => by rw [stockaderef18_reader_test.j1, l64, e1, Option.bind_some]) (Ev.bind_ e2 (Ev.bind_ (full_ev (s := t.f3) (by omega) (by omega)) ?_))
    dsimp only
    rw [l47, e3]
    simp only [Option.bind_some, wv]
    exact hR
  by_cases hm : t.f4 = fullV t.f3
  · have d3' : s.drop (a + ([64] : List UInt8).length + (dg t.f2).length) = [32] ++ (spanL t ++ r) := by rw [d3]; simp [maskL, hm]
    have e3 := has_no s [47] hs (by decide) _ l2 false (by rw [d3']; exact hasP_head (by decide))
    obtain ⟨e4, d4, l4⟩ := must_text s [32] _ hs (by decide) _ l2 d3'
    have e5 := j2_text s r hs t hg x5 x6 _ l4 d4 hr
    have el : a + ([64] : List UInt8).length + (dg t.f2).length + ([32] : List UInt8).length + (spanL t).length = a + (midL t ++ 32 :: spanL t).length := by simp [midL, maskL, hm]; omega
    rw [el] at e5
    refine start false _ _ e3 (Ev.eqn (fun K => ?_) e5)
    rw [if_neg (by simp), l32, e4, Option.bind_some, ← hm]
  · have d3' : s.drop (a + ([64] : List UInt8).length + (dg t.f2).length) = [47] ++ (dg t.f4 ++ ([32] ++ (spanL t ++ r))) := by rw [d3]; simp [maskL, hm]
    obtain ⟨e3, d4, l3⟩ := has_yes s [47] _ hs (by decide) _ l2 false d3'
    have e4 := number_text s hs 18446744073709551615 t.f4 (by omega) (by omega) (by omega) _ l3 _ d4 (nodig_cons n32)
    obtain ⟨d5, l4⟩ := drop_len l3 d4
    obtain ⟨e5, d6, l5⟩ := must_text s [32] _ hs (by decide) _ l4 d5
    have e6 := j2_text s r hs t hg x5 x6 _ l5 d6 hr
    have el : a + ([64] : List UInt8).length + (dg t.f2).length + ([47] : List UInt8).length + (dg t.f4).length + ([32] : List UInt8).length + (spanL t).length = a + (midL t ++ 32 :: spanL t).length := by simp [midL, maskL, hm]; omega
    rw [el] at e6
    refine start true _ _ e3 (Ev.eqn (fun K => if_pos rfl) (Ev.bind_ full8 (Ev.bind_ e4 (Ev.eqn (fun K => if_neg (by simp)) (Ev.bind_ (full_ev (s := t.f3) (by omega) (by omega)) (Ev.eqn (fun K => ?_) e6))))))
    dsimp only
    rw [l32, decide_eq_false (by omega), e5, Option.bind_some]
theorem j0_any (s : List UInt8) (hs : s.length ≤ 65536) (x0 : Bool) (x1 x2 x3 x4 x5 x6 : Int) (a : Nat) (ha : a ≤ s.length) (bad : Bool) :
    ∃ (t : S50) (a' : Nat) (b : Bool), t.f0 = x0 ∧ t.f1 = x1 ∧ Ev (fun k => stockaderef18_reader_test.j0 k ⟨s.toArray⟩ a bad x0 x1 x2 x3 x4 x5 x6) (t.f0, t.f1, t.f2, t.f3, t.f4, t.f5, t.f6, ⟨s.toArray⟩, (a' : Int), b) ∧ a ≤ a' ∧ a' ≤ s.length ∧ (b = false → bad = false ∧ Good t ∧ s.drop a = (whatL t ++ 32 :: spanL t) ++ s.drop a') := by
  obtain ⟨a1, b1, e1, p1, q1, s1⟩ := must_any s [117] hs (by decide) a ha bad
  obtain ⟨v, a2, b2, e2, p2, q2, r2, r2', s2⟩ := number_any s hs 64 (by omega) (by omega) a1 q1 b1
  have wv : wrap64 (IntKind.u64.wrap (Int.tdiv v 8)) = v / 8 := by
    have hw : ∀ x : Int, IntKind.u64.wrap x = x % 18446744073709551616 := fun x => by simp [IntKind.wrap, IntKind.bits, IntKind.signed]
    rw [hw, Int.tdiv_eq_ediv_of_nonneg r2]
    unfold wrap64; omega
  have start : ∀ R, Ev (fun k => if b2 = true then stockaderef18_reader_test.j1 k ⟨s.toArray⟩ a2 true x0 x1 x2 (v / 8) x4 x5 x6 else if v = 8 then stockaderef18_reader_test.j1 k ⟨s.toArray⟩ a2 false x0 x1 x2 (v / 8) x4 x5 x6 else if v = 16 then stockaderef18_reader_test.j1 k ⟨s.toArray⟩ a2 false x0 x1 x2 (v / 8) x4 x5 x6 else if v = 32 then stockaderef18_reader_test.j1 k ⟨s.toArray⟩ a2 false x0 x1 x2 (v / 8) x4 x5 x6 else stockaderef18_reader_test.j1 k ⟨s.toArray⟩ a2 (v != 64) x0 x1 x2 (v / 8) x4 x5 x6) R → Ev (fun k => stockaderef18_reader_test.j0 k ⟨s.toArray⟩ a bad x0 x1 x2 x3 x4 x5 x6) R := fun R hR => by
    refine Ev.step_ (fun K => by rw [stockaderef18_reader_test.j0, l117, e1, Option.bind_some]) (Ev.bind_ e2 ?_)
    dsimp only
    simp only [wv]
    exact hR
  have fin : ∀ (bb : Bool), (bb = false → b2 = false ∧ (v = 8 ∨ v = 16 ∨ v = 32 ∨ v = 64)) → (∀ R, Ev (fun k => stockaderef18_reader_test.j1 k ⟨s.toArray⟩ a2 bb x0 x1 x2 (v / 8) x4 x5 x6) R → Ev (fun k => stockaderef18_reader_test.j0 k ⟨s.toArray⟩ a bad x0 x1 x2 x3 x4 x5 x6) R) →
      ∃ (t : S50) (a' : Nat) (b : Bool), t.f0 = x0 ∧ t.f1 = x1 ∧ Ev (fun k => stockaderef18_reader_test.j0 k ⟨s.toArray⟩ a bad x0 x1 x2 x3 x4 x5 x6) (t.f0, t.f1, t.f2, t.f3, t.f4, t.f5, t.f6, ⟨s.toArray⟩, (a' : Int), b) ∧ a ≤ a' ∧ a' ≤ s.length ∧ (b = false → bad = false ∧ Good t ∧ s.drop a = (whatL t ++ 32 :: spanL t) ++ s.drop a') := fun bb hbb hgo => by
    obtain ⟨t, a3, b3, t0, t1, t3, e3, p3, q3, s3⟩ := j1_any s hs x0 x1 x2 (v / 8) x4 x5 x6 (by omega) (by omega) a2 q2 bb
    refine ⟨t, a3, b3, t0, t1, hgo _ e3, by omega, q3, fun hb => ?_⟩
    obtain ⟨hb3, hg, h3⟩ := s3 hb
    obtain ⟨hb2, hv⟩ := hbb hb3
    obtain ⟨hb1, h2⟩ := s2 hb2
    obtain ⟨hb0, h1⟩ := s1 hb1
    have e8 : 8 * t.f3 = v := by rw [t3]; omega
    refine ⟨hb0, hg, ?_⟩
    rw [h1, h2, h3]
    simp [whatL, midL, e8]
  cases b2 with
  | true => exact fin true (by simp) (fun R hR => start R (Ev.eqn (fun K => if_pos rfl) hR))
  | false =>
    by_cases c1 : v = 8
    · exact fin false (fun _ => ⟨rfl, .inl c1⟩) (fun R hR => start R (Ev.eqn (fun K => by rw [if_neg (by simp), if_pos c1]) hR))
    · by_cases c2 : v = 16
      · exact fin false (fun _ => ⟨rfl, .inr (.inl c2)⟩) (fun R hR => start R (Ev.eqn (fun K => by rw [if_neg (by simp), if_neg c1, if_pos c2]) hR))
      · by_cases c3 : v = 32
        · exact fin false (fun _ => ⟨rfl, .inr (.inr (.inl c3))⟩) (fun R hR => start R (Ev.eqn (fun K => by rw [if_neg (by simp), if_neg c1, if_neg c2, if_pos c3]) hR))
        · exact fin (v != 64) (fun h => ⟨rfl, .inr (.inr (.inr (by simpa using h)))⟩) (fun R hR => start R (Ev.eqn (fun K => by rw [if_neg (by simp), if_neg c1, if_neg c2, if_neg c3]) hR))
theorem j0_text (s r : List UInt8) (hs : s.length ≤ 65536) (t : S50) (hg : Good t) (h3 : t.f1 ≥ 3) (x2 x3 x4 x5 x6 : Int) (a : Nat) (ha : a ≤ s.length) (h : s.drop a = (whatL t ++ 32 :: spanL t) ++ r) (hr : NoDig r) :
    Ev (fun k => stockaderef18_reader_test.j0 k ⟨s.toArray⟩ a false t.f0 t.f1 x2 x3 x4 x5 x6) (t.f0, t.f1, t.f2, t.f3, t.f4, t.f5, t.f6, ⟨s.toArray⟩, ((a + (whatL t ++ 32 :: spanL t).length : Nat) : Int), false) := by
  obtain ⟨r5, r56, r6, hk⟩ := hg.ranges
  obtain ⟨_, hsz, ha0, hb, hc, hd, he⟩ := hk.resolve_left (by omega) |>.resolve_left (by omega)
  have d1 : s.drop a = [117] ++ (dg (8 * t.f3) ++ ((midL t ++ 32 :: spanL t) ++ r)) := by rw [h]; simp [whatL, midL]
  obtain ⟨e1, d2, l1⟩ := must_text s [117] _ hs (by decide) a ha d1
  have e2 := number_text s hs 64 (8 * t.f3) (by omega) (by omega) (by omega) _ l1 _ d2 (nodig_cons n64)
  obtain ⟨d3, l2⟩ := drop_len l1 d2
  have e3 := j1_text s r hs t hg h3 x2 x4 x5 x6 _ l2 d3 hr
  have el : a + ([117] : List UInt8).length + (dg (8 * t.f3)).length + (midL t ++ 32 :: spanL t).length = a + (whatL t ++ 32 :: spanL t).length := by simp [whatL, midL]; omega
  rw [el] at e3
  have wv : wrap64 (IntKind.u64.wrap (Int.tdiv (8 * t.f3) 8)) = t.f3 := by
    rcases hsz with e | e | e | e <;> rw [e] <;> decide +kernel
  refine Ev.step_ (fun K => by rw [stockaderef18_reader_test.j0, l117, e1, Option.bind_some]) (Ev.bind_ e2 ?_)
  dsimp only
  simp only [wv]
  refine Ev.eqn (fun K => ?_) e3
  rw [if_neg (by simp)]
  rcases hsz with e | e | e | e <;> rw [e] <;> rfl
theorem test_read_any (s : List UInt8) (hs : s.length ≤ 65536) (a : Nat) (ha : a ≤ s.length) (bad : Bool) :
    ∃ (t : S50) (a' : Nat) (b : Bool), Ev (fun k => stockaderef18_reader_test.f k ⟨s.toArray⟩ a bad) (t.f0, t.f1, t.f2, t.f3, t.f4, t.f5, t.f6, ⟨s.toArray⟩, (a' : Int), b) ∧ a ≤ a' ∧ a' ≤ s.length ∧ (b = false → bad = false ∧ Good t ∧ s.drop a = textL t ++ s.drop a') := by
  have ln : (⟨#[108, 101, 110, 32]⟩ : ByteArray) = ⟨([108, 101, 110, 32] : List UInt8).toArray⟩ := rfl
  have li : (⟨#[105, 110, 32]⟩ : ByteArray) = ⟨([105, 110, 32] : List UInt8).toArray⟩ := rfl
  have lp : (⟨#[112, 97, 115, 116, 32]⟩ : ByteArray) = ⟨([112, 97, 115, 116, 32] : List UInt8).toArray⟩ := rfl
  obtain ⟨nt, a0, e0, p0, q0, s0⟩ := has_any s [110, 111, 116, 32] hs (by decide) a ha bad
  obtain ⟨h1, a1, e1, p1, q1, s1⟩ := has_any s [108, 101, 110, 32] hs (by decide) a0 q0 bad
  have hnot : (if nt = true then ([110, 111, 116, 32] : List UInt8) else []) = notL nt := rfl
  rw [hnot] at s0
  cases h1 with
  | true =>
    obtain ⟨lo, hi, a2, b2, e2, p2, q2, s2⟩ := j2_any s hs nt 1 0 0 0 0 0 a1 q1 bad
    refine ⟨⟨nt, 1, 0, 0, 0, lo, hi⟩, a2, b2, Ev.eqn (fun K => ?_) e2, by omega, q2, fun hb => ?_⟩
    · unfold stockaderef18_reader_test.f
      rw [lnot, e0, Option.bind_some, ln, e1, Option.bind_some, if_pos rfl]
    · obtain ⟨hb0, hg, h2⟩ := s2 hb
      refine ⟨hb0, hg, ?_⟩
      rw [s0, s1, h2]
      simp [textL, headL, wordL, spanL, endL]
  | false =>
    obtain ⟨h2, a2, e2, p2, q2, s2⟩ := has_any s [105, 110, 32] hs (by decide) a1 q1 bad
    cases h2 with
    | true =>
      obtain ⟨lo, hi, a3, b3, e3, p3, q3, s3⟩ := j2_any s hs nt 2 0 0 0 0 0 a2 q2 bad
      refine ⟨⟨nt, 2, 0, 0, 0, lo, hi⟩, a3, b3, Ev.eqn (fun K => ?_) e3, by omega, q3, fun hb => ?_⟩
      · unfold stockaderef18_reader_test.f
        rw [lnot, e0, Option.bind_some, ln, e1, Option.bind_some, if_neg (by simp), li, e2, Option.bind_some, if_pos rfl]
      · obtain ⟨hb0, hg, h3⟩ := s3 hb
        refine ⟨hb0, hg, ?_⟩
        rw [s0, s1, s2, h3]
        simp [textL, headL, wordL, spanL, endL]
    | false =>
      obtain ⟨h3, a3, e3, p3, q3, s3⟩ := has_any s [112, 97, 115, 116, 32] hs (by decide) a2 q2 bad
      cases h3 with
      | true =>
        obtain ⟨t, a4, b4, t0, t1, e4, p4, q4, s4⟩ := j0_any s hs nt 4 0 0 0 0 0 a3 q3 bad
        refine ⟨t, a4, b4, Ev.eqn (fun K => ?_) e4, by omega, q4, fun hb => ?_⟩
        · unfold stockaderef18_reader_test.f
          rw [lnot, e0, Option.bind_some, ln, e1, Option.bind_some, if_neg (by simp), li, e2, Option.bind_some, if_neg (by simp), lp, e3, Option.bind_some, if_pos rfl]
        · obtain ⟨hb0, hg, h4⟩ := s4 hb
          refine ⟨hb0, hg, ?_⟩
          rw [s0, s1, s2, s3, h4]
          simp [textL, headL, wordL, whatL, t0, t1]
      | false =>
        obtain ⟨t, a4, b4, t0, t1, e4, p4, q4, s4⟩ := j0_any s hs nt 3 0 0 0 0 0 a3 q3 bad
        refine ⟨t, a4, b4, Ev.eqn (fun K => ?_) e4, by omega, q4, fun hb => ?_⟩
        · unfold stockaderef18_reader_test.f
          rw [lnot, e0, Option.bind_some, ln, e1, Option.bind_some, if_neg (by simp), li, e2, Option.bind_some, if_neg (by simp), lp, e3, Option.bind_some, if_neg (by simp)]
        · obtain ⟨hb0, hg, h4⟩ := s4 hb
          refine ⟨hb0, hg, ?_⟩
          rw [s0, s1, s2, s3, h4]
          simp [textL, headL, wordL, whatL, t0, t1]
theorem test_read_text (s r : List UInt8) (hs : s.length ≤ 65536) (t : S50) (hg : Good t) (a : Nat) (ha : a ≤ s.length) (h : s.drop a = textL t ++ r) (hr : NoDig r) :
    Ev (fun k => stockaderef18_reader_test.f k ⟨s.toArray⟩ a false) (t.f0, t.f1, t.f2, t.f3, t.f4, t.f5, t.f6, ⟨s.toArray⟩, ((a + (textL t).length : Nat) : Int), false) := by
  have ln : (⟨#[108, 101, 110, 32]⟩ : ByteArray) = ⟨([108, 101, 110, 32] : List UInt8).toArray⟩ := rfl
  have li : (⟨#[105, 110, 32]⟩ : ByteArray) = ⟨([105, 110, 32] : List UInt8).toArray⟩ := rfl
  have lp : (⟨#[112, 97, 115, 116, 32]⟩ : ByteArray) = ⟨([112, 97, 115, 116, 32] : List UInt8).toArray⟩ := rfl
  obtain ⟨r5, r56, r6, hk⟩ := hg.ranges
  have kinds : t.f1 = 1 ∨ t.f1 = 2 ∨ t.f1 = 3 ∨ t.f1 = 4 := by omega
  have d0 : s.drop a = notL t.f0 ++ ((headL t ++ 32 :: spanL t) ++ r) := by rw [h]; simp [textL]
  have e0 : stockaderef18_reader_has.f ⟨s.toArray⟩ a false ⟨([110, 111, 116, 32] : List UInt8).toArray⟩ = some (t.f0, ⟨s.toArray⟩, ((a + (notL t.f0).length : Nat) : Int), false) := by
    cases hn : t.f0 with
    | true =>
      rw [hn] at d0
      exact (has_yes s _ _ hs (by decide) a ha false d0).1
    | false =>
      rw [hn] at d0
      obtain ⟨c, l, hc, hne, _⟩ := head_first t hg
      exact has_no s _ hs (by decide) a ha false (by rw [d0, hc]; exact hasP_head hne)
  obtain ⟨d1, l1⟩ := drop_len ha d0
  have lt : a + (notL t.f0).length + (headL t ++ 32 :: spanL t).length = a + (textL t).length := by simp [textL]; omega
  have hz : t.f1 = 1 ∨ t.f1 = 2 → t.f2 = 0 ∧ t.f3 = 0 ∧ t.f4 = 0 := fun h12 => by
    obtain ⟨_, hk | hk⟩ := mayP hg.1
    · exact ⟨hk.2.1, hk.2.2.1, hk.2.2.2.1⟩
    · omega
  rcases kinds with hq | hq | hq | hq
  · obtain ⟨z2, z3, z4⟩ := hz (.inl hq)
    have hh : headL t = [108, 101, 110] := by unfold headL wordL; rw [hq]; rfl
    have d1' : s.drop (a + (notL t.f0).length) = [108, 101, 110, 32] ++ (spanL t ++ r) := by rw [d1, hh]; simp
    obtain ⟨e1, d2, l2⟩ := has_yes s _ _ hs (by decide) _ l1 false d1'
    have e2 := j2_text s r hs t hg 0 0 _ l2 d2 hr
    have el : a + (notL t.f0).length + ([108, 101, 110, 32] : List UInt8).length + (spanL t).length = a + (textL t).length := by rw [← lt, hh]; simp; omega
    rw [el, hq, z2, z3, z4] at e2
    rw [hq, z2, z3, z4]
    refine Ev.eqn (fun K => ?_) e2
    unfold stockaderef18_reader_test.f
    rw [lnot, e0, Option.bind_some, ln, e1, Option.bind_some, if_pos rfl]
  · obtain ⟨z2, z3, z4⟩ := hz (.inr hq)
    have hh : headL t = [105, 110] := by unfold headL wordL; rw [hq]; rfl
    have d1' : s.drop (a + (notL t.f0).length) = [105, 110, 32] ++ (spanL t ++ r) := by rw [d1, hh]; simp
    have e1 := has_no s [108, 101, 110, 32] hs (by decide) _ l1 false (by rw [d1']; exact hasP_head (by decide))
    obtain ⟨e2, d2, l2⟩ := has_yes s _ _ hs (by decide) _ l1 false d1'
    have e3 := j2_text s r hs t hg 0 0 _ l2 d2 hr
    have el : a + (notL t.f0).length + ([105, 110, 32] : List UInt8).length + (spanL t).length = a + (textL t).length := by rw [← lt, hh]; simp; omega
    rw [el, hq, z2, z3, z4] at e3
    rw [hq, z2, z3, z4]
    refine Ev.eqn (fun K => ?_) e3
    unfold stockaderef18_reader_test.f
    rw [lnot, e0, Option.bind_some, ln, e1, Option.bind_some, if_neg (by simp), li, e2, Option.bind_some, if_pos rfl]
  · have hh : headL t = whatL t := by unfold headL wordL whatL; rw [hq]; rfl
    rw [hh] at d1 lt
    have hd : ∃ l, s.drop (a + (notL t.f0).length) = 117 :: l := ⟨_, d1⟩
    obtain ⟨l, hd⟩ := hd
    have e1 := has_no s [108, 101, 110, 32] hs (by decide) _ l1 false (by rw [hd]; exact hasP_head (by decide))
    have e2 := has_no s [105, 110, 32] hs (by decide) _ l1 false (by rw [hd]; exact hasP_head (by decide))
    have e3 := has_no s [112, 97, 115, 116, 32] hs (by decide) _ l1 false (by rw [hd]; exact hasP_head (by decide))
    have e4 := j0_text s r hs t hg (by omega) 0 0 0 0 0 _ l1 d1 hr
    rw [lt, hq] at e4
    rw [hq]
    refine Ev.eqn (fun K => ?_) e4
    unfold stockaderef18_reader_test.f
    rw [lnot, e0, Option.bind_some, ln, e1, Option.bind_some, if_neg (by simp), li, e2, Option.bind_some, if_neg (by simp), lp, e3, Option.bind_some, if_neg (by simp)]
  · have hh : headL t = [112, 97, 115, 116, 32] ++ whatL t := by unfold headL wordL whatL; rw [hq]; rfl
    have d1' : s.drop (a + (notL t.f0).length) = [112, 97, 115, 116, 32] ++ ((whatL t ++ 32 :: spanL t) ++ r) := by rw [d1, hh]; simp
    have e1 := has_no s [108, 101, 110, 32] hs (by decide) _ l1 false (by rw [d1']; exact hasP_head (by decide))
    have e2 := has_no s [105, 110, 32] hs (by decide) _ l1 false (by rw [d1']; exact hasP_head (by decide))
    obtain ⟨e3, d2, l2⟩ := has_yes s _ _ hs (by decide) _ l1 false d1'
    have e4 := j0_text s r hs t hg (by omega) 0 0 0 0 0 _ l2 d2 hr
    have el : a + (notL t.f0).length + ([112, 97, 115, 116, 32] : List UInt8).length + (whatL t ++ 32 :: spanL t).length = a + (textL t).length := by rw [← lt, hh]; simp; omega
    rw [el, hq] at e4
    rw [hq]
    refine Ev.eqn (fun K => ?_) e4
    unfold stockaderef18_reader_test.f
    rw [lnot, e0, Option.bind_some, ln, e1, Option.bind_some, if_neg (by simp), li, e2, Option.bind_some, if_neg (by simp), lp, e3, Option.bind_some, if_pos rfl]
end Go.Proofs.YtighficpbplkhaaDoor.Pure

/- Chapter 18, plain: texts joined by commas. No conditions but the ones each theorem names. -/
namespace Go.Proofs.YtighficpbplkhaaDoor.Pure
open Go.RowKit Go.Proofs.YtighficpbplkhaaDoorW.PrintWords Go.Proofs.YtighficpbplkhaaDoorW.PrintLast Go.Proofs.YtighficpbplkhaaDoorW.PrintMore Go.Proofs.YtighficpbplkhaaDoor.P
set_option linter.unusedVariables false
set_option linter.unusedSimpArgs false
def sepL (i : Nat) : List UInt8 := if i = 0 then [] else [44, 32]
def joinL (ts : List S50) : List UInt8 := Lib.join (ts.map textL) [44, 32]
theorem join_snoc (t : S50) : ∀ (ts : List S50), joinL (ts ++ [t]) = joinL ts ++ (sepL ts.length ++ textL t) := by
  intro ts
  unfold joinL
  cases ts with
  | nil => simp [Lib.join_nil, Lib.join_one, sepL]
  | cons x r =>
    rw [List.cons_append, List.map_cons, Lib.join_cons, List.map_cons, Lib.join_cons]
    simp [Lib.joinTail, sepL, List.append_assoc]
theorem joinL_len (ts : List S50) (h8 : ts.length ≤ 8) (h : ∀ t ∈ ts, Good t) : (joinL ts).length ≤ 1900 := by
  cases ts with
  | nil => simp [joinL, Lib.join_nil]
  | cons t r =>
    have := testsL_len (t :: r) h8 h
    unfold testsL at this
    rw [if_neg (by simp)] at this
    unfold joinL; omega
end Go.Proofs.YtighficpbplkhaaDoor.Pure

/- Chapter 18, plain: the program reads a rule, a table. No conditions but the ones each theorem names. -/
namespace Go.Proofs.YtighficpbplkhaaDoor.Pure
open Go.RowKit Go.Proofs.YtighficpbplkhaaDoorW.PrintWords Go.Proofs.YtighficpbplkhaaDoorW.PrintLast Go.Proofs.YtighficpbplkhaaDoorW.PrintMore Go.Proofs.YtighficpbplkhaaDoor.P
set_option linter.unusedVariables false
set_option linter.unusedSimpArgs false

/-! which bytes a printed rule has -/
def Plain (c : UInt8) : Prop := c ≠ 44 ∧ c ≠ 45 ∧ c ≠ 10
theorem dig_plain {c : UInt8} (h : IsDig c) : Plain c := by
  refine ⟨?_, ?_, ?_⟩ <;> intro e <;> rw [e] at h <;> exact absurd h (by unfold IsDig; decide)
theorem dg_plain {n : Int} : ∀ c ∈ dg n, Plain c := fun c hc => dig_plain (dg_dig c hc)
theorem app_plain {a b : List UInt8} (ha : ∀ c ∈ a, Plain c) (hb : ∀ c ∈ b, Plain c) : ∀ c ∈ a ++ b, Plain c := fun c hc => (List.mem_append.1 hc).elim (ha c) (hb c)
theorem cons_plain {x : UInt8} {b : List UInt8} (hx : Plain x) (hb : ∀ c ∈ b, Plain c) : ∀ c ∈ x :: b, Plain c := fun c hc => (List.mem_cons.1 hc).elim (fun e => e ▸ hx) (hb c)
theorem nil_plain : ∀ c ∈ ([] : List UInt8), Plain c := fun c hc => by simp at hc
theorem text_plain (t : S50) : ∀ c ∈ textL t, Plain c := by
  have p (x : UInt8) (h : x ≠ 44 ∧ x ≠ 45 ∧ x ≠ 10 := by decide) : Plain x := h
  have hn : ∀ c ∈ notL t.f0, Plain c := by
    unfold notL
    split
    · exact cons_plain (p _) (cons_plain (p _) (cons_plain (p _) (cons_plain (p _) nil_plain)))
    · exact nil_plain
  have hw : ∀ c ∈ wordL t.f1, Plain c := by
    unfold wordL
    split
    · exact cons_plain (p _) (cons_plain (p _) (cons_plain (p _) nil_plain))
    · split
      · exact cons_plain (p _) (cons_plain (p _) nil_plain)
      · split
        · exact nil_plain
        · exact cons_plain (p _) (cons_plain (p _) (cons_plain (p _) (cons_plain (p _) (cons_plain (p _) nil_plain))))
  have hm : ∀ c ∈ maskL t, Plain c := by
    unfold maskL
    split
    · exact nil_plain
    · exact cons_plain (p _) dg_plain
  have hh : ∀ c ∈ headL t, Plain c := by
    unfold headL
    refine app_plain hw ?_
    split
    · exact cons_plain (p _) (app_plain dg_plain (cons_plain (p _) (app_plain dg_plain hm)))
    · exact nil_plain
  unfold textL spanL
  exact app_plain hn (app_plain hh (cons_plain (p _) (app_plain dg_plain (cons_plain (p _) (cons_plain (p _) dg_plain)))))
theorem tests_no45 (ts : List S50) : (45 : UInt8) ∉ testsL ts ∧ (10 : UInt8) ∉ testsL ts := by
  unfold testsL
  split
  · decide
  · have key : ∀ (x : UInt8), x = 45 ∨ x = 10 → x ∉ Lib.join (ts.map textL) [44, 32] := by
      intro x hx hm
      cases ts with
      | nil => simp [Lib.join_nil] at hm
      | cons t r =>
        rw [List.map_cons, Lib.join_cons, List.mem_append] at hm
        rcases hm with hm | hm
        · have := text_plain t x hm; unfold Plain at this; rcases hx with rfl | rfl <;> simp at this
        · unfold Lib.joinTail at hm
          obtain ⟨l, hl, hxl⟩ := List.mem_flatten.1 hm
          obtain ⟨y, hy, rfl⟩ := List.mem_map.1 hl
          obtain ⟨u, _, rfl⟩ := List.mem_map.1 hy
          rcases List.mem_append.1 hxl with h | h
          · rcases hx with rfl | rfl <;> simp at h
          · have := text_plain u x h; unfold Plain at this; rcases hx with rfl | rfl <;> simp at this
    exact ⟨key 45 (.inl rfl), key 10 (.inr rfl)⟩
theorem line_no10 (ts : List S50) (v : Int) : (10 : UInt8) ∉ lineL ts v := by
  unfold lineL arrow
  simp only [List.mem_append, not_or]
  exact ⟨(tests_no45 ts).2, by decide, dg_not n10⟩
theorem cut_line (ts : List S50) (v : Int) : Lib.cut (lineL ts v) arrow = (testsL ts, dg v, true) := cut_at (no_arrow (tests_no45 ts).1)
theorem tests_any {ts : List S50} (h : ∀ t ∈ ts, Good t) : testsL ts = [97, 110, 121] ↔ ts = [] := by
  constructor
  · intro e
    cases ts with
    | nil => rfl
    | cons t r =>
      exfalso
      unfold testsL at e
      rw [if_neg (by simp), List.map_cons, Lib.join_cons] at e
      obtain ⟨c, l, hc, _, ha⟩ := head_first t (h t List.mem_cons_self)
      unfold textL notL at e
      split at e
      · simp at e
      · rw [hc] at e; simp at e; exact ha e.1
  · intro e; rw [e]; rfl

/-! a rule -/
theorem lar : (⟨#[32, 45, 62, 32]⟩ : ByteArray) = ⟨arrow.toArray⟩ := rfl
theorem lco : (⟨#[44, 32]⟩ : ByteArray) = ⟨([44, 32] : List UInt8).toArray⟩ := rfl
theorem count_eq (b : List UInt8) (h : b.length ≤ 65536) : rule_count.f ⟨b.toArray⟩ = some (cntN ⟨b.toArray⟩) := by
  unfold rule_count.f; rw [if_pos (by rw [mk_size]; omega)]
theorem rule_end (x : List UInt8) (acc : List S50) (v : Int) (h0 : 0 ≤ v) (h1 : v < 4294967296) (hg : ∀ t ∈ acc, Good t) :
    ∃ ts v' b, Ev (fun k => if (acc.length : Int) ≤ 8 then (rule_line.f k acc v).bind fun t => some (acc, v, t.toList == (⟨x.toArray⟩ : ByteArray).toList) else some (acc, v, false)) (ts, v', b) ∧ (b = true → Valid ⟨ts, v'⟩ ∧ x = lineL ts v') := by
  by_cases h8 : acc.length ≤ 8
  · refine ⟨acc, v, (⟨(lineL acc v).toArray⟩ : ByteArray).toList == (⟨x.toArray⟩ : ByteArray).toList, Ev.eqn (fun K => if_pos (by omega)) (Ev.bind_ (line_ev acc h8 hg v h0 h1) Ev.pure), fun h => ⟨⟨h8, hg, h0, h1⟩, ?_⟩⟩
    rw [mk_list, mk_list] at h
    exact (beq_iff_eq.1 h).symm
  · exact ⟨acc, v, false, Ev.eqn (fun K => if_neg (by omega)) Ev.pure, by simp⟩
theorem rdOf_get {l : List ByteArray} {i : Nat} (h : i < l.length) : rdOf ByteArray.empty l (i : Int) = l[i] := by simp [rdOf, List.getD, List.getElem?_eq_getElem h]
theorem rule_l0_any (x : List UInt8) (ps : List ByteArray) (hp : ps.length ≤ 100000) (hs : ∀ p ∈ ps, p.size ≤ 65536) (v : Int) (h0 : 0 ≤ v) (h1 : v < 4294967296) :
    ∀ (n i : Nat) (acc : List S50), i + n = ps.length → acc.length ≤ i → (∀ t ∈ acc, Good t) → ∃ ts v' b, Ev (fun k => rule_rule.l0 k ⟨x.toArray⟩ ps ps.length i acc v) (ts, v', b) ∧ (b = true → Valid ⟨ts, v'⟩ ∧ x = lineL ts v') := by
  intro n
  induction n with
  | zero =>
    intro i acc hi ha hg
    obtain ⟨ts, v', b, hev, hb⟩ := rule_end x acc v h0 h1 hg
    exact ⟨ts, v', b, Ev.step_ (fun K => by rw [rule_rule.l0, if_neg (by omega)]) hev, hb⟩
  | succ n ih =>
    intro i acc hi ha hg
    have hil : i < ps.length := by omega
    obtain ⟨t, m, ht, hgood⟩ := test_any ps[i].data.toList (by have := hs _ (List.getElem_mem hil); rw [Array.length_toList]; exact this)
    rw [← eq_mk] at ht
    have htest : Ev (fun k => rule_test.f k ps[i]) (t.f0, t.f1, t.f2, t.f3, t.f4, t.f5, t.f6, m) := by
      unfold rule_test.f
      exact Ev.bind_ ht Ev.pure
    cases m with
    | false =>
      refine ⟨[], 0, false, Ev.step_ (fun K => ?_) (Ev.bind_ htest (g := fun k b => if b.2.2.2.2.2.2.2 = true then rule_rule.l0 k ⟨x.toArray⟩ ps ps.length ((i + 1 : Nat) : Int) (acc ++ [⟨b.1, b.2.1, b.2.2.1, b.2.2.2.1, b.2.2.2.2.1, b.2.2.2.2.2.1, b.2.2.2.2.2.2.1⟩]) v else some ([], 0, false)) (by simpa using Ev.pure)), by simp⟩
      rw [rule_rule.l0, if_pos (by omega), if_pos (by omega), if_pos (by omega), rdOf_get hil, ws (by omega)]
      simp only [if_pos (show acc.length < 2513169434916 by omega)]
    | true =>
      obtain ⟨ts, v', b, hev, hb⟩ := ih (i + 1) (acc ++ [t]) (by omega) (by rw [List.length_append]; simp only [List.length_cons, List.length_nil]; omega) (fun y hy => by
        rcases List.mem_append.1 hy with h | h
        · exact hg y h
        · rw [List.mem_singleton.1 h]; exact hgood rfl)
      refine ⟨ts, v', b, Ev.step_ (fun K => ?_) (Ev.bind_ htest (g := fun k b => if b.2.2.2.2.2.2.2 = true then rule_rule.l0 k ⟨x.toArray⟩ ps ps.length ((i + 1 : Nat) : Int) (acc ++ [⟨b.1, b.2.1, b.2.2.1, b.2.2.2.1, b.2.2.2.2.1, b.2.2.2.2.2.1, b.2.2.2.2.2.2.1⟩]) v else some ([], 0, false)) (by simpa using hev)), hb⟩
      rw [rule_rule.l0, if_pos (by omega), if_pos (by omega), if_pos (by omega), rdOf_get hil, ws (by omega)]
      simp only [if_pos (show acc.length < 2513169434916 by omega)]
theorem rule_any (x : List UInt8) (hx : x.length ≤ 65536) : ∃ ts v b, Ev (fun k => rule_rule.f k ⟨x.toArray⟩) (ts, v, b) ∧ (b = true → Valid ⟨ts, v⟩ ∧ x = lineL ts v) := by
  have hc := cut_len x arrow
  have e := Cut_eq x arrow (by omega)
  generalize (Lib.cut x arrow).1 = a at hc e
  generalize (Lib.cut x arrow).2.1 = d at hc e
  generalize (Lib.cut x arrow).2.2 = ok at e
  have ec := count_eq d (by omega)
  have bd := cntN_bd ⟨d.toArray⟩
  have start : ∀ k, rule_rule.f k ⟨x.toArray⟩ = if ok = true then if cntB ⟨d.toArray⟩ = true then rule_rule.j0 k ⟨x.toArray⟩ ⟨a.toArray⟩ (cntN ⟨d.toArray⟩) true else rule_rule.j0 k ⟨x.toArray⟩ ⟨a.toArray⟩ (cntN ⟨d.toArray⟩) (decide (cntN ⟨d.toArray⟩ ≥ 4294967296)) else rule_rule.j0 k ⟨x.toArray⟩ ⟨a.toArray⟩ (cntN ⟨d.toArray⟩) true := fun k => by
    unfold rule_rule.f
    rw [lar, e, Option.bind_some]
    dsimp only
    rw [ec, Option.bind_some]
    unfold strconv_toError.f
    rw [Option.bind_some]
  have bad : ∃ ts v b, Ev (fun k => rule_rule.j0 k ⟨x.toArray⟩ ⟨a.toArray⟩ (cntN ⟨d.toArray⟩) true) (ts, v, b) ∧ (b = true → Valid ⟨ts, v⟩ ∧ x = lineL ts v) :=
    ⟨[], 0, false, Ev.step_ (g := fun _ => some ([], 0, false)) (fun K => by rw [rule_rule.j0, if_pos rfl]) Ev.pure, by simp⟩
  by_cases c : ok = true ∧ cntB ⟨d.toArray⟩ = false ∧ cntN ⟨d.toArray⟩ < 4294967296
  · obtain ⟨c1, c2, c3⟩ := c
    have e3 : ∀ k, rule_rule.f k ⟨x.toArray⟩ = rule_rule.j0 k ⟨x.toArray⟩ ⟨a.toArray⟩ (cntN ⟨d.toArray⟩) false := fun k => by
      rw [start, if_pos c1, if_neg (by rw [c2]; simp), decide_eq_false (by omega)]
    have e4 : cntN ⟨d.toArray⟩ % 4294967296 = cntN ⟨d.toArray⟩ := by omega
    by_cases ca : a = [97, 110, 121]
    · obtain ⟨ts, v', b, hev, hb⟩ := rule_end x [] (cntN ⟨d.toArray⟩) bd.1 c3 (fun t ht => by simp at ht)
      refine ⟨ts, v', b, Ev.eqn e3 (Ev.step_ (fun K => ?_) hev), hb⟩
      rw [rule_rule.j0, if_neg (by simp), if_pos (by rw [mk_list]; exact ca), e4]
    · have hsp : strings_Split.f ⟨a.toArray⟩ ⟨([44, 32] : List UInt8).toArray⟩ = some (Lib.splitB ⟨([44, 32] : List UInt8).toArray⟩ 0 (Lib.countB ⟨a.toArray⟩ ⟨([44, 32] : List UInt8).toArray⟩) ⟨a.toArray⟩) := by
        unfold strings_Split.f
        rw [if_pos ⟨by rw [mk_size]; omega, by rw [mk_size]; decide⟩]
      have hlen := Lib.splitB_length_le ⟨([44, 32] : List UInt8).toArray⟩ 0 (Lib.countB ⟨a.toArray⟩ ⟨([44, 32] : List UInt8).toArray⟩) ⟨a.toArray⟩
      have hcl := Lib.countB_le ⟨([44, 32] : List UInt8).toArray⟩ (by rw [mk_size]; decide) _ ⟨a.toArray⟩ (Nat.le_refl _)
      have hsz := splitB_sizes ⟨([44, 32] : List UInt8).toArray⟩ (Lib.countB ⟨a.toArray⟩ ⟨([44, 32] : List UInt8).toArray⟩) ⟨a.toArray⟩
      rw [mk_size] at hcl
      generalize Lib.splitB ⟨([44, 32] : List UInt8).toArray⟩ 0 (Lib.countB ⟨a.toArray⟩ ⟨([44, 32] : List UInt8).toArray⟩) ⟨a.toArray⟩ = ps at hsp hlen hsz
      obtain ⟨ts, v', b, hev, hb⟩ := rule_l0_any x ps (by omega) (fun p hp => by have := hsz p hp; have em := mk_size a; omega) (cntN ⟨d.toArray⟩) bd.1 c3 ps.length 0 [] (by omega) (by simp) (fun t ht => by simp at ht)
      refine ⟨ts, v', b, Ev.eqn e3 (Ev.step_ (fun K => ?_) hev), hb⟩
      rw [rule_rule.j0, if_neg (by simp), if_neg (by rw [mk_list]; exact ca), lco, hsp, Option.bind_some, e4]
      rfl
  · obtain ⟨ts, v, b, hev, hb⟩ := bad
    refine ⟨ts, v, b, Ev.eqn (fun K => ?_) hev, hb⟩
    rw [start]
    by_cases c1 : ok = true
    · rw [if_pos c1]
      by_cases c2 : cntB ⟨d.toArray⟩ = true
      · rw [if_pos c2]
      · have : cntN ⟨d.toArray⟩ ≥ 4294967296 := by
          refine Decidable.byContradiction fun h => c ⟨c1, by simpa using c2, by omega⟩
        rw [if_neg c2, decide_eq_true this]
    · rw [if_neg c1]
theorem rule_l0_text (ts : List S50) (v : Int) (hv : Valid ⟨ts, v⟩) (ps : List ByteArray) (hp : ps = ts.map fun t => (⟨(textL t).toArray⟩ : ByteArray)) :
    ∀ (n i : Nat), i + n = ts.length → Ev (fun k => rule_rule.l0 k ⟨(lineL ts v).toArray⟩ ps ps.length i (ts.take i) v) (ts, v, true) := by
  obtain ⟨h8, hg, h0, h1⟩ := hv
  have h8' : ts.length ≤ 8 := h8
  have hpl : ps.length = ts.length := by rw [hp, List.length_map]
  intro n
  induction n with
  | zero =>
    intro i hi
    refine Ev.step_ (g := fun k => (rule_line.f k ts v).bind fun t => some (ts, v, t.toList == (⟨(lineL ts v).toArray⟩ : ByteArray).toList)) (fun K => ?_) (Ev.bind_ (line_ev ts h8' hg v h0 h1) ?_)
    · rw [rule_rule.l0, if_neg (by omega), List.take_of_length_le (by omega), if_pos (by omega)]
    · simpa using Ev.pure
  | succ n ih =>
    intro i hi
    have hil : i < ts.length := by omega
    have hip : i < ps.length := by omega
    have hpi : ps[i] = ⟨(textL ts[i]).toArray⟩ := by simp [hp]
    have htest : Ev (fun k => rule_test.f k ps[i]) (ts[i].f0, ts[i].f1, ts[i].f2, ts[i].f3, ts[i].f4, ts[i].f5, ts[i].f6, true) := by
      unfold rule_test.f
      rw [hpi]
      exact Ev.bind_ (test_text _ (hg _ (List.getElem_mem hil))) Ev.pure
    have nx := ih (i + 1) (by omega)
    rw [List.take_succ_eq_append_getElem hil] at nx
    refine Ev.step_ (fun K => ?_) (Ev.bind_ htest (g := fun k b => if b.2.2.2.2.2.2.2 = true then rule_rule.l0 k ⟨(lineL ts v).toArray⟩ ps ps.length ((i + 1 : Nat) : Int) (ts.take i ++ [⟨b.1, b.2.1, b.2.2.1, b.2.2.2.1, b.2.2.2.2.1, b.2.2.2.2.2.1, b.2.2.2.2.2.2.1⟩]) v else some ([], 0, false)) (Ev.eqn (fun K => if_pos rfl) nx))
    rw [rule_rule.l0, if_pos (by omega), if_pos (by omega), if_pos (by omega), rdOf_get hip, ws (by omega)]
    simp only [if_pos (show (ts.take i).length < 2513169434916 by rw [List.length_take]; omega)]
theorem rule_text (ts : List S50) (v : Int) (hv : Valid ⟨ts, v⟩) : Ev (fun k => rule_rule.f k ⟨(lineL ts v).toArray⟩) (ts, v, true) := by
  obtain ⟨h8, hg, h0, h1⟩ := hv
  have h8' : ts.length ≤ 8 := h8
  have h0 : 0 ≤ v := h0
  have h1 : v < 4294967296 := h1
  have hll := lineL_len ts v h8' hg h0 h1
  have htl := testsL_len ts h8' hg
  have dv := dg_len (n := v) h0 (by omega)
  have e := Cut_eq (lineL ts v) arrow (by omega)
  rw [cut_line] at e
  have ec := count_eq (dg v) (by omega)
  rw [cntN_dg h0 (by omega)] at ec
  have e4 : v % 4294967296 = v := by omega
  have st : ∀ k, rule_rule.f k ⟨(lineL ts v).toArray⟩ = rule_rule.j0 k ⟨(lineL ts v).toArray⟩ ⟨(testsL ts).toArray⟩ v false := fun k => by
    unfold rule_rule.f
    rw [lar, e, Option.bind_some]
    dsimp only
    rw [ec, Option.bind_some]
    unfold strconv_toError.f
    rw [Option.bind_some, cntB_dg h0 (by omega), if_pos rfl, if_neg (by simp), decide_eq_false (by omega)]
  refine Ev.eqn st ?_
  cases hts : ts with
  | nil =>
    subst hts
    refine Ev.step_ (g := fun k => (rule_line.f k [] v).bind fun t => some ([], v, t.toList == (⟨(lineL [] v).toArray⟩ : ByteArray).toList)) (fun K => ?_) (Ev.bind_ (line_ev [] (by simp) hg v h0 h1) (by simpa using Ev.pure))
    rw [rule_rule.j0, if_neg (by simp), if_pos (by rw [mk_list]; rfl), e4, if_pos (by simp)]
  | cons t r =>
    rw [hts] at hg h8 htl
    have et : testsL (t :: r) = Lib.join ((t :: r).map textL) [44, 32] := by unfold testsL; rw [if_neg (by simp)]
    have hsp := Split_eq t r (fun x hx hc => (text_plain x 44 hc).1 rfl) (by rw [← et]; omega)
    rw [← et] at hsp
    have hl := rule_l0_text (t :: r) v ⟨h8, hg, h0, h1⟩ _ rfl (t :: r).length 0 (by omega)
    refine Ev.step_ (fun K => ?_) hl
    rw [rule_rule.j0, if_neg (by simp), if_neg (by rw [mk_list, tests_any hg]; simp), hsp, Option.bind_some, e4]
    rfl
end Go.Proofs.YtighficpbplkhaaDoor.Pure

/- Chapter 18, plain: the program reads a table. No conditions but the ones each theorem names. -/
namespace Go.Proofs.YtighficpbplkhaaDoor.Pure
open Go.RowKit Go.Proofs.YtighficpbplkhaaDoorW.PrintWords Go.Proofs.YtighficpbplkhaaDoorW.PrintLast Go.Proofs.YtighficpbplkhaaDoorW.PrintMore Go.Proofs.YtighficpbplkhaaDoor.P
set_option linter.unusedVariables false
set_option linter.unusedSimpArgs false

def IsLine (x : List UInt8) (r : S53) : Prop := Valid r ∧ x = lineL r.f0 r.f1
theorem line_inj {x : List UInt8} {r s : S53} (hr : IsLine x r) (hs : IsLine x s) : r = s := by
  have a := rule_text r.f0 r.f1 hr.1
  have b := rule_text s.f0 s.f1 hs.1
  rw [← hr.2] at a
  rw [← hs.2] at b
  obtain ⟨K, hK⟩ := a
  obtain ⟨L, hL⟩ := b
  have h1 := hK (max K L) (by omega)
  have h2 := hL (max K L) (by omega)
  rw [h1] at h2
  simp only [Option.some.injEq, Prod.mk.injEq, and_true] at h2
  obtain ⟨r0, r1⟩ := r
  obtain ⟨s0, s1⟩ := s
  simp only at h2
  rw [h2.1, h2.2]
open Classical in
noncomputable def readO (x : List UInt8) : Option S53 := if h : ∃ r, IsLine x r then some (Classical.choose h) else none
theorem readO_some {x : List UInt8} {r : S53} : readO x = some r ↔ IsLine x r := by
  unfold readO
  constructor
  · intro h
    split at h
    · rename_i hx
      rw [← Option.some.inj h]
      exact Classical.choose_spec hx
    · simp at h
  · intro h
    have hx : ∃ r, IsLine x r := ⟨r, h⟩
    rw [dif_pos hx]
    exact congrArg some (line_inj (Classical.choose_spec hx) h)
theorem rule_ev (x : List UInt8) (hx : x.length ≤ 65536) : ∃ ts v, Ev (fun k => rule_rule.f k ⟨x.toArray⟩) (ts, v, (readO x).isSome) ∧ ∀ r, readO x = some r → r = ⟨ts, v⟩ := by
  obtain ⟨ts, v, b, hev, hb⟩ := rule_any x hx
  cases hr : readO x with
  | none =>
    cases b with
    | false => exact ⟨ts, v, hev, fun r h => by simp at h⟩
    | true =>
      obtain ⟨h1, h2⟩ := hb rfl
      have := readO_some.2 (⟨h1, h2⟩ : IsLine x ⟨ts, v⟩)
      rw [hr] at this; simp at this
  | some r =>
    have h := readO_some.1 hr
    have ht := rule_text r.f0 r.f1 h.1
    rw [← h.2] at ht
    exact ⟨r.f0, r.f1, ht, fun s hs => by obtain rfl := Option.some.inj hs; rfl⟩
/-- The lines of a text, one by one: n is the line's number. -/
noncomputable def parseG : Nat → List UInt8 → List S53 → Int → List S53 × Int × Int
  | 0, _, acc, _ => (acc, 0, 0)
  | f + 1, s, acc, n => if s = [] then (acc, 0, 0) else if (Lib.cut s [10]).2.2 = true then match readO (Lib.cut s [10]).1 with
      | none => ([], n, 5)
      | some r => if n > 32 then ([], n, 3) else parseG f (Lib.cut s [10]).2.1 (acc ++ [r]) (n + 1)
    else ([], n, 5)
theorem cut_rest {s : List UInt8} (h : (Lib.cut s [10]).2.2 = true) : s = (Lib.cut s [10]).1 ++ 10 :: (Lib.cut s [10]).2.1 ∧ 10 ∉ (Lib.cut s [10]).1 := by
  rcases Lib.index_spec s [10] with ⟨h1, _⟩ | ⟨i, h1, h2, h3, h4⟩
  · unfold Lib.cut at h; rw [h1, if_neg (by omega)] at h; simp at h
  · have hroom := Lib.occAt_room h3
    have hc : s[i]? = some 10 := by have := occ_char (i := 0) (c := 10) h3 rfl; simpa using this
    obtain ⟨hi, hg⟩ := List.getElem?_eq_some_iff.1 hc
    have e : Lib.cut s [10] = (s.take i, s.drop (i + 1), true) := by
      unfold Lib.cut; rw [h1, if_pos (by omega), Int.toNat_natCast]; rfl
    rw [e]
    refine ⟨?_, fun hm => ?_⟩
    · show s = s.take i ++ 10 :: s.drop (i + 1)
      rw [← hg, ← List.drop_eq_getElem_cons hi, List.take_append_drop]
    · obtain ⟨j, hj, hje⟩ := List.getElem_of_mem hm
      rw [List.length_take] at hj
      rw [List.getElem_take] at hje
      have hocc : Lib.occAt s [10] j = true := by
        unfold Lib.occAt
        rw [List.drop_eq_getElem_cons (show j < s.length by omega), hje]
        rfl
      exact absurd hocc (by simp [h4 j (by omega)])
theorem parse_l0 : ∀ (f : Nat) (s : List UInt8) (acc : List S53) (n : Int), s.length < f → s.length ≤ 65536 → 1 ≤ n → n ≤ 33 → acc.length ≤ 40 → (acc.length : Int) ≤ n → Ev (fun k => rule_Parse.l0 k ⟨s.toArray⟩ acc n) (parseG f s acc n) := by
  intro f
  induction f with
  | zero => intro s acc n h; omega
  | succ f ih =>
    intro s acc n hf hs h1 h2 ha han
    rw [parseG]
    by_cases hn : s = []
    · rw [if_pos hn]
      exact Ev.step_ (g := fun _ => some (acc, 0, 0)) (fun K => by rw [rule_Parse.l0, if_pos (by rw [mk_list]; exact hn)]) Ev.pure
    · rw [if_neg hn]
      have hc := cut_len s [10]
      have e := Cut_eq s [10] (by omega)
      have l10 : (⟨#[10]⟩ : ByteArray) = ⟨([10] : List UInt8).toArray⟩ := rfl
      obtain ⟨ts, v, hev, hr⟩ := rule_ev (Lib.cut s [10]).1 (by omega)
      have bad : Ev (fun k => rule_Parse.j1 k acc n ⟨(Lib.cut s [10]).2.1.toArray⟩ true ts v) ([], n, 5) :=
        Ev.step_ (g := fun _ => some ([], n, 5)) (fun K => by rw [rule_Parse.j1, if_pos rfl]) Ev.pure
      refine Ev.step_ (g := fun k => (rule_rule.f k ⟨(Lib.cut s [10]).1.toArray⟩).bind fun b => if b.2.2 = true then rule_Parse.j1 k acc n ⟨(Lib.cut s [10]).2.1.toArray⟩ (!(Lib.cut s [10]).2.2) b.1 b.2.1 else rule_Parse.j1 k acc n ⟨(Lib.cut s [10]).2.1.toArray⟩ true b.1 b.2.1) (fun K => ?_) (Ev.bind_ hev ?_)
      · rw [rule_Parse.l0, if_neg (by rw [mk_list]; exact hn), l10, e, Option.bind_some]
      · cases hq : readO (Lib.cut s [10]).1 with
        | none =>
          have e1 : (if (Lib.cut s [10]).2.2 = true then (match (none : Option S53) with | none => (([] : List S53), n, (5 : Int)) | some r => if n > 32 then ([], n, 3) else parseG f (Lib.cut s [10]).2.1 (acc ++ [r]) (n + 1)) else ([], n, 5)) = ([], n, 5) := by split <;> rfl
          rw [e1]
          exact Ev.eqn (fun K => if_neg (by simp)) bad
        | some r =>
          obtain rfl := hr r hq
          refine Ev.eqn (fun K => if_pos rfl) ?_
          by_cases ht : (Lib.cut s [10]).2.2 = true
          · rw [if_pos ht, ht]
            dsimp only
            by_cases h32 : n > 32
            · rw [if_pos h32]
              exact Ev.step_ (g := fun _ => some ([], n, 3)) (fun K => by rw [rule_Parse.j1, if_neg (by simp), if_pos h32]) Ev.pure
            · rw [if_neg h32]
              have hrest := (cut_rest ht).1
              have hlen : (Lib.cut s [10]).2.1.length < s.length := by
                have := congrArg List.length hrest
                simp only [List.length_append, List.length_cons] at this
                omega
              refine Ev.step_ (fun K => ?_) (ih (Lib.cut s [10]).2.1 (acc ++ [⟨ts, v⟩]) (n + 1) (by omega) (by omega) (by omega) (by omega) (by rw [List.length_append]; simp only [List.length_cons, List.length_nil]; omega) (by rw [List.length_append]; simp only [List.length_cons, List.length_nil]; omega))
              rw [rule_Parse.j1, if_neg (by simp), if_neg h32, if_pos (by omega), w64 (n := n + 1) (by omega) (by omega)]
          · rw [if_neg ht]
            have : (Lib.cut s [10]).2.2 = false := by simpa using ht
            rw [this]
            exact bad
noncomputable def parseV (s : List UInt8) : List S53 × Int × Int := parseG (s.length + 1) s [] 1
theorem parse_ev (s : List UInt8) (h : s.length ≤ 65536) : Ev (fun k => rule_Parse.f k ⟨s.toArray⟩) (parseV s) := by
  refine Ev.eqn (fun K => ?_) (parse_l0 (s.length + 1) s [] 1 (by omega) h (by omega) (by omega) (by simp) (by simp))
  unfold rule_Parse.f
  rw [if_neg (by rw [mk_size]; omega)]

/-! there and back -/
theorem parse_print : ∀ (l : List S53) (f : Nat) (acc : List S53) (n : Int), (∀ r ∈ l, Valid r) → (printL l).length < f → n + l.length ≤ 33 → parseG f (printL l) acc n = (acc ++ l, 0, 0) := by
  intro l
  induction l with
  | nil =>
    intro f acc n _ hf _
    cases f with
    | zero => simp [printL] at hf
    | succ f => rw [parseG, if_pos (by simp [printL])]; simp
  | cons r l ih =>
    intro f acc n hv hf hn
    cases f with
    | zero => omega
    | succ f =>
      have e : printL (r :: l) = lineL r.f0 r.f1 ++ ([10] ++ printL l) := by simp [printL, rowL]
      have c : Lib.cut (printL (r :: l)) [10] = (lineL r.f0 r.f1, printL l, true) := by rw [e]; exact cut_at (no_occ (c := 10) rfl (line_no10 _ _))
      have hl : (printL l).length < f := by
        have := congrArg List.length e
        simp only [List.length_append, List.length_cons, List.length_nil] at this
        omega
      have hr : readO (lineL r.f0 r.f1) = some r := readO_some.2 ⟨hv r List.mem_cons_self, rfl⟩
      simp only [List.length_cons] at hn
      rw [parseG, if_neg (by rw [e]; simp), c, if_pos rfl]
      dsimp only
      rw [hr]
      dsimp only
      rw [if_neg (by omega), ih f (acc ++ [r]) (n + 1) (fun x hx => hv x (List.mem_cons_of_mem _ hx)) hl (by omega), List.append_assoc]
      rfl
theorem parse_back : ∀ (f : Nat) (s : List UInt8) (acc : List S53) (n : Int), s.length < f → 1 ≤ n → (acc.length : Int) + 1 = n → (∀ r ∈ acc, Valid r) →
    ((parseG f s acc n).2.2 = 0 → ∃ l, parseG f s acc n = (acc ++ l, 0, 0) ∧ (∀ r ∈ l, Valid r) ∧ s = printL l ∧ (acc ++ l).length ≤ 32 ∨ (s = [] ∧ parseG f s acc n = (acc, 0, 0))) ∧ ((parseG f s acc n).2.2 ≠ 0 → (parseG f s acc n).1 = [] ∧ 0 < (parseG f s acc n).2.1) := by
  intro f
  induction f with
  | zero => intro s acc n h; omega
  | succ f ih =>
    intro s acc n hf h1 hacc hv
    rw [parseG]
    by_cases hn : s = []
    · rw [if_pos hn]
      exact ⟨fun _ => ⟨[], .inr ⟨hn, rfl⟩⟩, fun h => absurd rfl h⟩
    · rw [if_neg hn]
      by_cases ht : (Lib.cut s [10]).2.2 = true
      · rw [if_pos ht]
        cases hq : readO (Lib.cut s [10]).1 with
        | none => exact ⟨fun h => by simp at h, fun _ => ⟨rfl, by show 0 < n; omega⟩⟩
        | some r =>
          dsimp only
          by_cases h32 : n > 32
          · rw [if_pos h32]; exact ⟨fun h => by simp at h, fun _ => ⟨rfl, by show 0 < n; omega⟩⟩
          · rw [if_neg h32]
            obtain ⟨hrest, _⟩ := cut_rest ht
            have hlen : (Lib.cut s [10]).2.1.length < s.length := by
              have := congrArg List.length hrest
              simp only [List.length_append, List.length_cons] at this
              omega
            have hl := readO_some.1 hq
            have hv' : ∀ x ∈ acc ++ [r], Valid x := fun x hx => by
              rcases List.mem_append.1 hx with h | h
              · exact hv x h
              · rw [List.mem_singleton.1 h]; exact hl.1
            obtain ⟨i1, i2⟩ := ih (Lib.cut s [10]).2.1 (acc ++ [r]) (n + 1) (by omega) (by omega) (by rw [List.length_append]; simp only [List.length_cons, List.length_nil]; omega) hv'
            refine ⟨fun h => ?_, i2⟩
            obtain ⟨l, h | ⟨he, h⟩⟩ := i1 h
            · obtain ⟨p1, p2, p3, p4⟩ := h
              refine ⟨r :: l, .inl ⟨by rw [p1, List.append_assoc]; rfl, fun x hx => ?_, ?_, by rw [List.append_assoc] at p4; exact p4⟩⟩
              · rcases List.mem_cons.1 hx with rfl | hx
                · exact hl.1
                · exact p2 x hx
              · have e : printL (r :: l) = lineL r.f0 r.f1 ++ ([10] ++ printL l) := by simp [printL, rowL]
                rw [e, ← p3, ← hl.2]; exact hrest
            · refine ⟨[r], .inl ⟨h, fun x hx => ?_, ?_, by rw [List.length_append]; simp only [List.length_cons, List.length_nil]; omega⟩⟩
              · rw [List.mem_singleton.1 hx]; exact hl.1
              · have e : printL [r] = lineL r.f0 r.f1 ++ ([10] ++ []) := by simp [printL, rowL]
                have hr2 := hrest
                rw [he] at hr2
                rw [e, ← hl.2]; exact hr2
      · rw [if_neg ht]
        exact ⟨fun h => by simp at h, fun _ => ⟨rfl, by show 0 < n; omega⟩⟩
theorem parseV_ok {s : List UInt8} (h : (parseV s).2.2 = 0) : ∃ l, parseV s = (l, 0, 0) ∧ (∀ r ∈ l, Valid r) ∧ s = printL l ∧ l.length ≤ 32 := by
  obtain ⟨i1, _⟩ := parse_back (s.length + 1) s [] 1 (by omega) (by omega) (by simp) (fun r hr => by simp at hr)
  obtain ⟨l, ⟨p1, p2, p3, p4⟩ | ⟨he, h2⟩⟩ := i1 h
  · exact ⟨l, p1, p2, p3, p4⟩
  · exact ⟨[], h2, fun r hr => by simp at hr, by rw [he]; rfl, by simp⟩
theorem parseV_bad {s : List UInt8} (h : (parseV s).2.2 ≠ 0) : (parseV s).1 = [] ∧ 0 < (parseV s).2.1 :=
  (parse_back (s.length + 1) s [] 1 (by omega) (by omega) (by simp) (fun r hr => by simp at hr)).2 h
end Go.Proofs.YtighficpbplkhaaDoor.Pure

/- Chapter 18, plain: the document reads a rule, a table. No conditions but the ones each theorem names. -/
namespace Go.Proofs.YtighficpbplkhaaDoor.Pure
open Go.RowKit Go.Proofs.YtighficpbplkhaaDoorW.PrintWords Go.Proofs.YtighficpbplkhaaDoorW.PrintLast Go.Proofs.YtighficpbplkhaaDoorW.PrintMore Go.Proofs.YtighficpbplkhaaDoor.P
set_option linter.unusedVariables false
set_option linter.unusedSimpArgs false

def ut (x : S50) : S55 := ⟨x.f0, x.f1, x.f2, x.f3, x.f4, x.f5, x.f6⟩
theorem map_ut (l : List S50) : (l.map ut).map tt = l := by
  rw [List.map_map]
  have : tt ∘ ut = id := rfl
  rw [this, List.map_id]
theorem l44 : (⟨#[44, 32]⟩ : ByteArray) = ⟨([44, 32] : List UInt8).toArray⟩ := rfl
theorem lany : (⟨#[97, 110, 121]⟩ : ByteArray) = ⟨([97, 110, 121] : List UInt8).toArray⟩ := rfl
theorem read_j2_any (x : List UInt8) (hx : x.length ≤ 65536) (a : Nat) (ha : a ≤ x.length) (bad : Bool) (ts : List S55) (w : Int) :
    ∃ (ts' : List S55) (v' : Int) (b : Bool), Ev (fun k => stockaderef18_Read.j2 k ⟨x.toArray⟩ ⟨x.toArray⟩ a bad ts w) (ts', v', b) ∧ (b = true → bad = false ∧ ts' = ts ∧ ts.length ≤ 8 ∧ 0 ≤ v' ∧ v' < 4294967296 ∧ x.drop a = arrow ++ dg v') := by
  obtain ⟨a1, b1, e1, p1, q1, s1⟩ := must_any x arrow hx (by decide) a ha bad
  obtain ⟨v, a2, b2, e2, p2, q2, r2, r2', s2⟩ := number_any x hx 4294967295 (by omega) (by omega) a1 q1 b1
  have start : ∀ R, Ev (fun k => if b2 = true then some (([] : List S55), (0 : Int), false) else if (a2 : Int) = (x.length : Int) then if (ts.length : Int) > 8 then some ([], 0, false) else some (ts, v % 4294967296, true) else some ([], 0, false)) R → Ev (fun k => stockaderef18_Read.j2 k ⟨x.toArray⟩ ⟨x.toArray⟩ a bad ts w) R := fun R hR => by
    refine Ev.step_ (fun K => by rw [stockaderef18_Read.j2, lar, e1, Option.bind_some, mk_size]) (Ev.bind_ e2 hR)
  by_cases c : b2 = false ∧ a2 = x.length ∧ ts.length ≤ 8
  · obtain ⟨c1, c2, c3⟩ := c
    obtain ⟨hb1, h2⟩ := s2 c1
    obtain ⟨hb0, h1⟩ := s1 hb1
    refine ⟨ts, v % 4294967296, true, start _ (Ev.eqn (fun K => by rw [if_neg (by rw [c1]; simp), if_pos (by omega), if_neg (by omega)]) Ev.pure), fun _ => ⟨hb0, rfl, c3, by omega, by omega, ?_⟩⟩
    have ev : v % 4294967296 = v := by omega
    rw [ev, h1, h2, c2, List.drop_length, List.append_nil]
  · refine ⟨[], 0, false, start _ (Ev.eqn (fun K => ?_) Ev.pure), by simp⟩
    cases b2 with
    | true => rw [if_pos rfl]
    | false =>
      rw [if_neg (by simp)]
      by_cases c2 : a2 = x.length
      · rw [if_pos (by omega), if_pos (by
          have : ¬ ts.length ≤ 8 := fun h => c ⟨rfl, c2, h⟩
          omega)]
      · rw [if_neg (by omega)]
theorem read_go (x : List UInt8) (a : Nat) (bad more : Bool) (ts : List S55) (w : Int) (h : more = false ∨ bad = true) (R : List S55 × Int × Bool) (hR : Ev (fun k => stockaderef18_Read.j2 k ⟨x.toArray⟩ ⟨x.toArray⟩ a bad ts w) R) : Ev (fun k => stockaderef18_Read.l0 k ⟨x.toArray⟩ more ⟨x.toArray⟩ a bad ts w) R := by
  refine Ev.step_ (g := fun k => stockaderef18_Read.j1 k ⟨x.toArray⟩ false ⟨x.toArray⟩ a bad ts w) (fun K => ?_) (Ev.step_ (fun K => by rw [stockaderef18_Read.j1, if_neg (by simp)]) hR)
  rw [stockaderef18_Read.l0]
  rcases h with h | h <;> rw [h]
  · rw [if_neg (by simp)]
  · cases more
    · rw [if_neg (by simp)]
    · rw [if_pos rfl]; rfl
theorem read_round (x : List UInt8) (hx : x.length ≤ 65536) (a : Nat) (ts : List S55) (ht : ts.length ≤ 100000) (w : Int) (t : S50) (a1 : Nat) (b1 : Bool) (h : Bool) (a2 : Nat)
    (e1 : Ev (fun k => stockaderef18_reader_test.f k ⟨x.toArray⟩ a false) (t.f0, t.f1, t.f2, t.f3, t.f4, t.f5, t.f6, ⟨x.toArray⟩, (a1 : Int), b1))
    (e2 : stockaderef18_reader_has.f ⟨x.toArray⟩ a1 b1 ⟨([44, 32] : List UInt8).toArray⟩ = some (h, ⟨x.toArray⟩, (a2 : Int), b1)) (R : List S55 × Int × Bool)
    (hR : Ev (fun k => stockaderef18_Read.l0 k ⟨x.toArray⟩ h ⟨x.toArray⟩ a2 b1 (ts ++ [ut t]) w) R) : Ev (fun k => stockaderef18_Read.l0 k ⟨x.toArray⟩ true ⟨x.toArray⟩ a false ts w) R := by
  refine Ev.step_ (g := fun k => stockaderef18_Read.j1 k ⟨x.toArray⟩ true ⟨x.toArray⟩ a false ts w) (fun K => by rw [stockaderef18_Read.l0, if_pos rfl]; rfl) (Ev.step_ (fun K => by rw [stockaderef18_Read.j1, if_pos rfl]) (Ev.bind_ e1 ?_))
  dsimp only
  refine Ev.eqn (fun K => if_pos (by omega)) ?_
  rw [l44, e2]
  exact hR
theorem read_l0_any (x : List UInt8) (hx : x.length ≤ 65536) (w : Int) : ∀ (d a : Nat) (ts : List S55), x.length - a ≤ d → a ≤ x.length → ts.length ≤ a → (∀ t ∈ ts, Good (tt t)) → x = (joinL (ts.map tt) ++ sepL ts.length) ++ x.drop a →
    ∃ (ts' : List S55) (v' : Int) (b : Bool), Ev (fun k => stockaderef18_Read.l0 k ⟨x.toArray⟩ true ⟨x.toArray⟩ a false ts w) (ts', v', b) ∧ (b = true → Valid ⟨ts'.map tt, v'⟩ ∧ x = lineL (ts'.map tt) v') := by
  intro d
  induction d with
  | zero =>
    intro a ts hd ha hta hg hp
    obtain ⟨t, a1, b1, e1, p1, q1, s1⟩ := test_read_any x hx a ha false
    obtain ⟨h, a2, e2, p2, q2, s2⟩ := has_any x [44, 32] hx (by decide) a1 q1 b1
    cases b1 with
    | false =>
      obtain ⟨_, hgt, h1⟩ := s1 rfl
      have hl := congrArg List.length h1
      have := (textL_len t hgt).1
      rw [List.length_append, List.length_drop, List.length_drop] at hl
      omega
    | true =>
      obtain ⟨ts', v', b, e3, s3⟩ := read_j2_any x hx a2 q2 true (ts ++ [ut t]) w
      refine ⟨ts', v', b, read_round x hx a ts (by omega) w t a1 true h a2 e1 e2 _ (read_go x a2 true h _ w (.inr rfl) _ e3), fun hb => ?_⟩
      exact absurd (s3 hb).1 (by simp)
  | succ d ih =>
    intro a ts hd ha hta hg hp
    obtain ⟨t, a1, b1, e1, p1, q1, s1⟩ := test_read_any x hx a ha false
    obtain ⟨h, a2, e2, p2, q2, s2⟩ := has_any x [44, 32] hx (by decide) a1 q1 b1
    cases b1 with
    | true =>
      obtain ⟨ts', v', b, e3, s3⟩ := read_j2_any x hx a2 q2 true (ts ++ [ut t]) w
      refine ⟨ts', v', b, read_round x hx a ts (by omega) w t a1 true h a2 e1 e2 _ (read_go x a2 true h _ w (.inr rfl) _ e3), fun hb => ?_⟩
      exact absurd (s3 hb).1 (by simp)
    | false =>
      obtain ⟨_, hgt, h1⟩ := s1 rfl
      have hl := congrArg List.length h1
      have h4 := (textL_len t hgt).1
      rw [List.length_append, List.length_drop, List.length_drop] at hl
      have hg' : ∀ y ∈ ts ++ [ut t], Good (tt y) := fun y hy => by
        rcases List.mem_append.1 hy with h | h
        · exact hg y h
        · rw [List.mem_singleton.1 h]; exact hgt
      have hmap : (ts ++ [ut t]).map tt = ts.map tt ++ [t] := by rw [List.map_append]; rfl
      have hp' : x = joinL ((ts ++ [ut t]).map tt) ++ x.drop a1 := by
        rw [hmap, join_snoc, List.length_map, List.append_assoc, List.append_assoc, ← h1, ← List.append_assoc]; exact hp
      have hlen : (ts ++ [ut t]).length = ts.length + 1 := by simp
      cases h with
      | true =>
        have hp2 : x = (joinL ((ts ++ [ut t]).map tt) ++ sepL (ts ++ [ut t]).length) ++ x.drop a2 := by
          have es : sepL (ts ++ [ut t]).length = [44, 32] := by unfold sepL; rw [hlen, if_neg (by omega)]
          rw [es, List.append_assoc]
          rw [if_pos rfl] at s2
          rw [← s2]; exact hp'
        obtain ⟨ts', v', b, e3, s3⟩ := ih a2 (ts ++ [ut t]) (by omega) q2 (by omega) hg' hp2
        exact ⟨ts', v', b, read_round x hx a ts (by omega) w t a1 false true a2 e1 e2 _ e3, s3⟩
      | false =>
        obtain ⟨ts', v', b, e3, s3⟩ := read_j2_any x hx a2 q2 false (ts ++ [ut t]) w
        refine ⟨ts', v', b, read_round x hx a ts (by omega) w t a1 false false a2 e1 e2 _ (read_go x a2 false false _ w (.inl rfl) _ e3), fun hb => ?_⟩
        obtain ⟨_, rfl, h8, v0, v1, hd2⟩ := s3 hb
        refine ⟨⟨by rw [List.length_map]; exact h8, fun y hy => ?_, v0, v1⟩, ?_⟩
        · obtain ⟨z, hz, rfl⟩ := List.mem_map.1 hy
          exact hg' z hz
        · have s2' : x.drop a1 = x.drop a2 := s2
          rw [s2', hd2] at hp'
          have et : testsL ((ts ++ [ut t]).map tt) = joinL ((ts ++ [ut t]).map tt) := by unfold testsL joinL; rw [if_neg (by simp)]
          unfold lineL
          rw [et]; exact hp'
theorem read_any (x : List UInt8) (hx : x.length ≤ 65536) : ∃ (ts : List S55) (v : Int) (b : Bool), Ev (fun k => stockaderef18_Read.f k ⟨x.toArray⟩) (ts, v, b) ∧ (b = true → Valid ⟨ts.map tt, v⟩ ∧ x = lineL (ts.map tt) v) := by
  obtain ⟨h, a, e, p, q, s⟩ := has_any x [97, 110, 121] hx (by decide) 0 (by omega) false
  have start : ∀ k, stockaderef18_Read.f k ⟨x.toArray⟩ = if h = true then stockaderef18_Read.j2 k ⟨x.toArray⟩ ⟨x.toArray⟩ a false [] 0 else stockaderef18_Read.l0 k ⟨x.toArray⟩ true ⟨x.toArray⟩ a false [] 0 := fun k => by
    unfold stockaderef18_Read.f strconv_baseError.f
    rw [Option.bind_some]
    dsimp only
    rw [lany, show (0 : Int) = ((0 : Nat) : Int) from rfl, e, Option.bind_some]
  cases h with
  | true =>
    obtain ⟨ts, v, b, e2, s2⟩ := read_j2_any x hx a q false [] 0
    refine ⟨ts, v, b, Ev.eqn (fun K => by rw [start, if_pos rfl]) e2, fun hb => ?_⟩
    obtain ⟨_, rfl, _, v0, v1, hd⟩ := s2 hb
    refine ⟨⟨by simp, fun t ht => by simp at ht, v0, v1⟩, ?_⟩
    rw [List.drop_zero, if_pos rfl, hd] at s
    rw [s]; rfl
  | false =>
    rw [if_neg (by simp), List.nil_append, List.drop_zero] at s
    obtain ⟨ts, v, b, e2, s2⟩ := read_l0_any x hx 0 x.length a [] (by omega) q (by simp) (fun t ht => by simp at ht) (by
      have : joinL (([] : List S55).map tt) ++ sepL ([] : List S55).length = [] := rfl
      rw [this, List.nil_append]; exact s)
    exact ⟨ts, v, b, Ev.eqn (fun K => by rw [start, if_neg (by simp)]) e2, s2⟩
theorem read_j2_text (x : List UInt8) (hx : x.length ≤ 65536) (a : Nat) (ha : a ≤ x.length) (ts : List S55) (h8 : ts.length ≤ 8) (w v : Int) (h0 : 0 ≤ v) (h1 : v < 4294967296) (h : x.drop a = arrow ++ dg v) :
    Ev (fun k => stockaderef18_Read.j2 k ⟨x.toArray⟩ ⟨x.toArray⟩ a false ts w) (ts, v, true) := by
  obtain ⟨e1, d1, l1⟩ := must_text x arrow (dg v) hx (by decide) a ha h
  have e2 := number_text x hx 4294967295 v (by omega) h0 (by omega) _ l1 [] (by rw [d1, List.append_nil]) (fun c l h => by simp at h)
  obtain ⟨d2, l2⟩ := drop_len (r := []) l1 (by rw [d1, List.append_nil])
  have hal : a + arrow.length + (dg v).length = x.length := by
    have := congrArg List.length d2
    rw [List.length_drop] at this
    simp at this; omega
  have ev : v % 4294967296 = v := by omega
  refine Ev.step_ (fun K => by rw [stockaderef18_Read.j2, lar, e1, Option.bind_some, mk_size]) (Ev.bind_ e2 (Ev.eqn (fun K => ?_) Ev.pure))
  dsimp only
  rw [if_neg (by simp), hal, if_pos rfl, if_neg (by omega), ev]
theorem join_cons2 (t : S50) (r : List S50) : joinL (t :: r) = textL t ++ (if r = [] then [] else [44, 32] ++ joinL r) := by
  unfold joinL
  cases r with
  | nil => simp [Lib.join_one]
  | cons u r => rw [List.map_cons, Lib.join_cons, List.map_cons, Lib.join_cons]; simp [Lib.joinTail]
theorem read_l0_text (x : List UInt8) (hx : x.length ≤ 65536) (v : Int) (h0 : 0 ≤ v) (h1 : v < 4294967296) (w : Int) : ∀ (r : List S50) (t : S50) (acc : List S55) (a : Nat), a ≤ x.length → (∀ y ∈ t :: r, Good y) → acc.length + (t :: r).length ≤ 8 → x.drop a = joinL (t :: r) ++ (arrow ++ dg v) →
    Ev (fun k => stockaderef18_Read.l0 k ⟨x.toArray⟩ true ⟨x.toArray⟩ a false acc w) (acc ++ (t :: r).map ut, v, true) := by
  intro r
  induction r with
  | nil =>
    intro t acc a ha hg h8 hd
    rw [join_cons2, if_pos rfl, List.append_nil] at hd
    have e1 := test_read_text x _ hx t (hg t List.mem_cons_self) a ha hd (nodig_cons n32)
    obtain ⟨d1, l1⟩ := drop_len ha hd
    have e2 := has_no x [44, 32] hx (by decide) _ l1 false (by rw [d1]; exact hasP_head (by decide))
    have e3 := read_j2_text x hx _ l1 (acc ++ [ut t]) (by rw [List.length_append]; exact h8) w v h0 h1 d1
    exact read_round x hx a acc (by simp at h8; omega) w t _ false false _ e1 e2 _ (read_go x _ false false _ w (.inl rfl) _ e3)
  | cons u r ih =>
    intro t acc a ha hg h8 hd
    rw [join_cons2, if_neg (by simp), List.append_assoc] at hd
    have e1 := test_read_text x _ hx t (hg t List.mem_cons_self) a ha hd (nodig_cons n44)
    obtain ⟨d1, l1⟩ := drop_len ha hd
    rw [List.append_assoc] at d1
    obtain ⟨e2, d2, l2⟩ := has_yes x [44, 32] _ hx (by decide) _ l1 false d1
    have e3 := ih u (acc ++ [ut t]) _ l2 (fun y hy => hg y (List.mem_cons_of_mem _ hy)) (by simp at h8 ⊢; omega) d2
    rw [List.append_assoc] at e3
    exact read_round x hx a acc (by simp at h8; omega) w t _ false true _ e1 e2 _ e3
theorem read_text (ts : List S50) (v : Int) (hv : Valid ⟨ts, v⟩) : Ev (fun k => stockaderef18_Read.f k ⟨(lineL ts v).toArray⟩) (ts.map ut, v, true) := by
  obtain ⟨h8, hg, h0, h1⟩ := hv
  have h8' : ts.length ≤ 8 := h8
  have h0 : 0 ≤ v := h0
  have h1 : v < 4294967296 := h1
  have hll := lineL_len ts v h8' hg h0 h1
  cases hts : ts with
  | nil =>
    subst hts
    have hd : (lineL [] v).drop 0 = [97, 110, 121] ++ (arrow ++ dg v) := rfl
    obtain ⟨e, d, l⟩ := has_yes (lineL [] v) [97, 110, 121] _ (by omega) (by decide) 0 (by omega) false hd
    have e2 := read_j2_text (lineL [] v) (by omega) _ l [] (by simp) 0 v h0 h1 d
    refine Ev.eqn (fun K => ?_) e2
    unfold stockaderef18_Read.f strconv_baseError.f
    rw [Option.bind_some]
    dsimp only
    rw [lany, show (0 : Int) = ((0 : Nat) : Int) from rfl, e, Option.bind_some]
    rfl
  | cons t r =>
    rw [hts] at hg h8' hll
    have et : lineL (t :: r) v = joinL (t :: r) ++ (arrow ++ dg v) := by unfold lineL testsL joinL; rw [if_neg (by simp)]
    have hno : hasP ((lineL (t :: r) v).drop 0) [97, 110, 121] = false := by
      rw [List.drop_zero, et, join_cons2]
      obtain ⟨c, l, hc, hne, ha⟩ := head_first t (hg t List.mem_cons_self)
      unfold textL notL
      split
      · exact hasP_head (by decide)
      · rw [hc]; exact hasP_head ha
    have e := has_no (lineL (t :: r) v) [97, 110, 121] (by omega) (by decide) 0 (by omega) false hno
    have e2 := read_l0_text (lineL (t :: r) v) (by omega) v h0 h1 0 r t [] 0 (by omega) hg (by simpa using h8') et
    refine Ev.eqn (fun K => ?_) e2
    unfold stockaderef18_Read.f strconv_baseError.f
    rw [Option.bind_some]
    dsimp only
    rw [lany, show (0 : Int) = ((0 : Nat) : Int) from rfl, e, Option.bind_some]
    rfl
theorem read_ev (x : List UInt8) (hx : x.length ≤ 65536) : ∃ (ts : List S55) (v : Int), Ev (fun k => stockaderef18_Read.f k ⟨x.toArray⟩) (ts, v, (readO x).isSome) ∧ ∀ r, readO x = some r → r = ⟨ts.map tt, v⟩ := by
  obtain ⟨ts, v, b, hev, hb⟩ := read_any x hx
  cases hr : readO x with
  | none =>
    cases b with
    | false => exact ⟨ts, v, hev, fun r h => by simp at h⟩
    | true =>
      obtain ⟨h1, h2⟩ := hb rfl
      have := readO_some.2 (⟨h1, h2⟩ : IsLine x ⟨ts.map tt, v⟩)
      rw [hr] at this; simp at this
  | some r =>
    have h := readO_some.1 hr
    have ht := read_text r.f0 r.f1 h.1
    rw [← h.2] at ht
    exact ⟨r.f0.map ut, r.f1, ht, fun s hs => by obtain rfl := Option.some.inj hs; rw [map_ut]⟩
/-! a table -/
theorem scan (x : List UInt8) (hx : x.length ≤ 65536) (acc : List S46) (n : Int) (f : Nat) (R : List S46 × Int × Int) : ∀ (m a : Nat), a + m ≤ x.length → (∀ j, a ≤ j → (h : j < a + m) → (h2 : j < x.length) → x[j] ≠ 10) → Ev (fun k => stockaderef18_Parse.l0 k ⟨x.toArray⟩ acc n f ((a + m : Nat) : Int)) R → Ev (fun k => stockaderef18_Parse.l0 k ⟨x.toArray⟩ acc n f a) R := by
  intro m
  induction m with
  | zero => intro a _ _ h; exact h
  | succ m ih =>
    intro a ha hne h
    have hl : a < x.length := by omega
    have hb : ¬ bt ⟨x.toArray⟩ (a : Int) = 10 := by
      rw [bt_get hl]
      intro e
      refine hne a (Nat.le_refl _) (by omega) hl ?_
      have e2 : x[a].toNat = 10 := by omega
      have := congrArg UInt8.ofNat e2
      rwa [UInt8.ofNat_toNat] at this
    refine Ev.step_ (fun K => ?_) (ih (a + 1) (by omega) (fun j h1 h2 h3 => hne j (by omega) (by omega) h3) (by rw [show a + 1 + m = a + (m + 1) by omega]; exact h))
    rw [stockaderef18_Parse.l0, if_pos (by rw [mk_size]; omega), if_pos (by omega), if_neg hb, ws (by omega)]
theorem refParse_l0 (x : List UInt8) (hx : x.length ≤ 65536) : ∀ (g f : Nat) (acc : List S46) (n : Int), f ≤ x.length → x.length - f < g → 0 ≤ n → n ≤ 32 → acc.length ≤ 40 → (acc.length : Int) ≤ n →
    ∃ (L : List S46) (p q : Int), Ev (fun k => stockaderef18_Parse.l0 k ⟨x.toArray⟩ acc n f f) (L, p, q) ∧ (L.map tr, p, q) = parseG g (x.drop f) (acc.map tr) (n + 1) := by
  intro g
  induction g with
  | zero => intro f acc n hf hg; omega
  | succ g ih =>
    intro f acc n hf hg h0 h1 ha han
    rw [parseG]
    by_cases hn : x.drop f = []
    · rw [if_pos hn]
      have hfl : f = x.length := by
        have := congrArg List.length hn
        rw [List.length_drop] at this
        simp at this; omega
      refine ⟨acc, 0, 0, Ev.step_ (g := fun _ => some (acc, 0, 0)) (fun K => ?_) Ev.pure, rfl⟩
      rw [stockaderef18_Parse.l0, if_neg (by rw [mk_size]; omega), if_neg (by rw [mk_size]; omega)]
    · rw [if_neg hn]
      have hfl : f < x.length := by
        refine Decidable.byContradiction fun h => hn (List.drop_eq_nil_of_le (by omega))
      by_cases ht : (Lib.cut (x.drop f) [10]).2.2 = true
      · rw [if_pos ht]
        obtain ⟨hrest, hno⟩ := cut_rest ht
        generalize hT : (Lib.cut (x.drop f) [10]).1 = T at hrest hno ⊢
        generalize hB : (Lib.cut (x.drop f) [10]).2.1 = B at hrest ⊢
        have hlen := congrArg List.length hrest
        rw [List.length_drop, List.length_append, List.length_cons] at hlen
        have hnl : f + T.length < x.length := by omega
        have hc : x[f + T.length] = 10 := by
          have h2 : (x.drop f)[T.length]? = some 10 := by rw [hrest, List.getElem?_append_right (Nat.le_refl _), Nat.sub_self]; rfl
          rw [List.getElem?_drop, List.getElem?_eq_getElem hnl] at h2
          exact Option.some.inj h2
        have hscan : ∀ j, f ≤ j → (h : j < f + T.length) → (h2 : j < x.length) → x[j] ≠ 10 := fun j h1 h2 h3 he => by
          have h4 : (x.drop f)[j - f]? = some 10 := by rw [List.getElem?_drop, show f + (j - f) = j by omega, List.getElem?_eq_getElem h3, he]
          rw [hrest, List.getElem?_append_left (by omega)] at h4
          exact hno (List.mem_of_getElem? h4)
        have hext : (⟨x.toArray⟩ : ByteArray).extract f (f + T.length) = ⟨T.toArray⟩ := by
          rw [extr, show f + T.length - f = T.length by omega, hrest, List.take_left]
        have hdrop : x.drop (f + T.length + 1) = B := by
          rw [show f + T.length + 1 = f + (T.length + 1) by omega, ← List.drop_drop, hrest, List.drop_append]; simp
        obtain ⟨ts, v, hev, hr⟩ := read_ev T (by omega)
        have hb : bt ⟨x.toArray⟩ ((f + T.length : Nat) : Int) = 10 := by rw [bt_get hnl, hc]; rfl
        have start : ∀ R, Ev (fun k => if (readO T).isSome = true then if n + 1 > 32 then some (([] : List S46), n + 1, (3 : Int)) else stockaderef18_Parse.l0 k ⟨x.toArray⟩ (acc ++ [⟨ts, v⟩]) (n + 1) ((f + T.length + 1 : Nat) : Int) ((f + T.length + 1 : Nat) : Int) else some ([], n + 1, 5)) R → Ev (fun k => stockaderef18_Parse.l0 k ⟨x.toArray⟩ acc n f f) R := fun R hR => by
          refine scan x hx acc n f R T.length f (by omega) hscan (Ev.step_ (g := fun k => (stockaderef18_Read.f k ⟨T.toArray⟩).bind fun b => if b.2.2 = true then if n + 1 > 32 then some (([] : List S46), n + 1, (3 : Int)) else stockaderef18_Parse.l0 k ⟨x.toArray⟩ (acc ++ [⟨b.1, b.2.1⟩]) (n + 1) ((f + T.length + 1 : Nat) : Int) ((f + T.length + 1 : Nat) : Int) else some ([], n + 1, 5)) (fun K => ?_) (Ev.bind_ hev hR))
          have hacc : acc.length < 4398046511104 := by omega
          rw [stockaderef18_Parse.l0, if_pos (by rw [mk_size]; omega), if_pos (by omega), if_pos hb, if_pos (by omega), if_pos (by omega), if_pos (by rw [mk_size]; omega), Int.toNat_natCast, Int.toNat_natCast, hext, w64 (n := n + 1) (by omega) (by omega), ws (by omega)]
          simp only [if_pos hacc]
        cases hq : readO T with
        | none =>
          exact ⟨[], n + 1, 5, start _ (Ev.eqn (fun K => by rw [hq]; exact if_neg (by simp)) Ev.pure), rfl⟩
        | some r =>
          obtain rfl := hr r hq
          dsimp only
          by_cases h32 : n + 1 > 32
          · rw [if_pos h32]
            exact ⟨[], n + 1, 3, start _ (Ev.eqn (fun K => by rw [hq]; exact (if_pos rfl).trans (if_pos h32)) Ev.pure), rfl⟩
          · rw [if_neg h32]
            obtain ⟨L, p, q, e2, h2⟩ := ih (f + T.length + 1) (acc ++ [⟨ts, v⟩]) (n + 1) (by omega) (by omega) (by omega) (by omega) (by rw [List.length_append]; simp only [List.length_cons, List.length_nil]; omega) (by rw [List.length_append]; simp only [List.length_cons, List.length_nil]; omega)
            refine ⟨L, p, q, start _ (Ev.eqn (fun K => by rw [hq]; exact (if_pos rfl).trans (if_neg h32)) e2), ?_⟩
            rw [h2, hdrop, List.map_append]
            rfl
      · rw [if_neg ht]
        have hno : (10 : UInt8) ∉ x.drop f := fun hm => by
          refine ht ?_
          obtain ⟨j, hj, hje⟩ := List.getElem_of_mem hm
          have hocc : Lib.occAt (x.drop f) [10] j = true := by
            unfold Lib.occAt
            rw [List.drop_eq_getElem_cons hj, hje]; rfl
          unfold Lib.cut
          rcases Lib.index_spec (x.drop f) [10] with ⟨_, h2⟩ | ⟨i, h2, _⟩
          · exact absurd hocc (by rw [h2 j (by omega)]; simp)
          · rw [h2, if_pos (by omega)]
        refine ⟨[], n + 1, 5, scan x hx acc n f _ (x.length - f) f (by omega) (fun j h1 h2 h3 he => hno ?_) (Ev.step_ (g := fun _ => some ([], n + 1, 5)) (fun K => ?_) Ev.pure), rfl⟩
        · have h4 : (x.drop f)[j - f]? = some 10 := by rw [List.getElem?_drop, show f + (j - f) = j by omega, List.getElem?_eq_getElem h3, he]
          exact List.mem_of_getElem? h4
        · rw [stockaderef18_Parse.l0, if_neg (by rw [mk_size]; omega), if_pos (by rw [mk_size]; omega), w64 (n := n + 1) (by omega) (by omega)]
theorem refParse_ev (x : List UInt8) (hx : x.length ≤ 65536) : ∃ (L : List S46) (p q : Int), Ev (fun k => stockaderef18_Parse.f k ⟨x.toArray⟩) (L, p, q) ∧ (L.map tr, p, q) = parseV x := by
  obtain ⟨L, p, q, e, h⟩ := refParse_l0 x hx (x.length + 1) 0 [] 0 (by omega) (by omega) (by omega) (by omega) (by simp) (by simp)
  refine ⟨L, p, q, Ev.eqn (fun K => ?_) e, h⟩
  unfold stockaderef18_Parse.f
  rw [if_neg (by rw [mk_size]; omega)]
  rfl
end Go.Proofs.YtighficpbplkhaaDoor.Pure

/- The law RuleParses holds for all texts that memory can hold: any text as a table, or the line that is none, and why, is the document's. -/
namespace Go.Proofs.YtighficpbplkhaaDoor.Pure
open Go.RowKit Go.Proofs.YtighficpbplkhaaDoorW.PrintWords Go.Proofs.YtighficpbplkhaaDoorW.PrintLast Go.Proofs.YtighficpbplkhaaDoorW.PrintMore Go.Proofs.YtighficpbplkhaaDoor.P
set_option linter.unusedVariables false
set_option linter.unusedSimpArgs false

theorem RuleParses (a0 : ByteArray) (w0 : a0.size ≤ 140737488351232) : ∃ k, stockadelaw18_RuleParses.f k a0 = some true := by
  refine Ev.rounds (g := fun k => stockadelaw18_RuleParses.f k a0) ?_
  unfold stockadelaw18_RuleParses.f
  by_cases c : (a0.size : Int) > 6000
  · exact Ev.eqn (fun K => if_pos c) wakes_some
  · have hl : a0.data.toList.length ≤ 6000 := by rw [Array.length_toList]; have : a0.size = a0.data.size := rfl; omega
    have hp := parse_ev a0.data.toList (by omega)
    obtain ⟨L, p, q, hr, he⟩ := refParse_ev a0.data.toList (by omega)
    rw [← eq_mk] at hp hr
    rw [← he] at hp
    have hL : L.length < 4611686018427387904 ∧ ∀ z ∈ L, z.f0.length < 4611686018427387904 := by
      by_cases c2 : (parseV a0.data.toList).2.2 = 0
      · obtain ⟨l, e, hv, _, h32⟩ := parseV_ok c2
        rw [← he] at e
        have el : L.map tr = l := (Prod.mk.inj e).1
        refine ⟨by rw [← el, List.length_map] at h32; omega, fun z hz => ?_⟩
        have := (hv (tr z) (by rw [← el]; exact List.mem_map.2 ⟨z, hz, rfl⟩)).1
        simp only [tr, List.length_map] at this
        omega
      · obtain ⟨h1, _⟩ := parseV_bad c2
        rw [← he] at h1
        have el : L = [] := List.map_eq_nil_iff.1 h1
        rw [el]
        exact ⟨by simp, fun z hz => by simp at hz⟩
    refine Ev.eqn (fun K => if_neg c) (Ev.bind_ hp (Ev.bind_ hr (Ev.bind_ (is_ev L hL.1 hL.2) ?_)))
    refine Ev.eqn (fun K => if_pos rfl) (Ev.eqn (fun K => if_pos rfl) (Ev.eqn (fun K => if_pos rfl) wakes_some))
end Go.Proofs.YtighficpbplkhaaDoor.Pure
