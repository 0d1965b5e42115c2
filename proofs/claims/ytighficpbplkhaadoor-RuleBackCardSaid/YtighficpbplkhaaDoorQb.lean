/- Chapter 18, plain: tables: how large, in memory of their own, alike; their check. No conditions but the ones each theorem names. -/
import Derived.Test.YtighficpbplkhaaDoorQa
import Derived.Test.YtighficpbplkhaaDoorPx2
import Derived.Test.YtighficpbplkhaaDoorPx21
namespace Go.Proofs.YtighficpbplkhaaDoor.Pure
open Go.RowKit Go.Proofs.YtighficpbplkhaaDoorW.PrintWords Go.Proofs.YtighficpbplkhaaDoorW.PrintLast Go.Proofs.YtighficpbplkhaaDoorW.PrintMore Go.Proofs.YtighficpbplkhaaDoor.P
set_option linter.unusedVariables false
set_option linter.unusedSimpArgs false

theorem drop_get {α : Type} {l : List α} {i : Nat} (h : i < l.length) : l.drop i = l[i] :: l.drop (i + 1) := List.drop_eq_getElem_cons h
theorem rd53 {l : List S53} {i : Nat} (h : i < l.length) : rd_T53 l (i : Int) = l[i] := by simp [rd_T53, List.getD, List.getElem?_eq_getElem h]
theorem rd46 {l : List S46} {i : Nat} (h : i < l.length) : rd_T46 l (i : Int) = l[i] := by simp [rd_T46, List.getD, List.getElem?_eq_getElem h]
theorem rd50 {l : List S50} {i : Nat} (h : i < l.length) : rd_T50 l (i : Int) = l[i] := by simp [rd_T50, List.getD, List.getElem?_eq_getElem h]
theorem rd55 {l : List S55} {i : Nat} (h : i < l.length) : rd_T55 l (i : Int) = l[i] := by simp [rd_T55, List.getD, List.getElem?_eq_getElem h]
theorem ws {i : Nat} (h : i < 4611686018427387904) : wrap64 ((i : Int) + 1) = ((i + 1 : Nat) : Int) := by unfold wrap64; omega
def Bytes (p : List Int) : Prop := p.length ≤ 140737488351232 ∧ ∀ b ∈ p, 0 ≤ b ∧ b ≤ 255
def Fits (l : List S53) : Prop := l.length < 4611686018427387904 ∧ ∀ z ∈ l, z.f0.length < 4611686018427387904
def Small (l : List S46) : Prop := l.length ≤ 400 ∧ ∀ z ∈ l, z.f0.length ≤ 400

/-! how large -/
theorem large_l0 (l : List S46) (hl : l.length ≤ 140737488351232) (hz : ∀ z ∈ l, z.f0.length ≤ 140737488351232) : ∀ (n i : Nat) (x : Int), i + n = l.length → 0 ≤ x → x ≤ 281474976710656 → (l.length : Int) ≤ x →
    (∀ j, (h : j < l.length) → j < i → ((l[j].f0.length : Nat) : Int) ≤ x) → ∃ b, Ev (fun k => stockadelaw18_large.l0 k l x i) b ∧ (b = false → Small l) := by
  intro n
  induction n with
  | zero =>
    intro i x hi h0 h1 h2 h3
    refine ⟨decide (x > 400), Ev.step_ (g := fun _ => some (decide (x > 400))) (fun K => ?_) Ev.pure, fun hb => ?_⟩
    · rw [stockadelaw18_large.l0, if_neg (by omega)]
    · have hx : x ≤ 400 := by simpa using hb
      refine ⟨by omega, fun z hz' => ?_⟩
      obtain ⟨j, hj, rfl⟩ := List.getElem_of_mem hz'
      have := h3 j hj (by omega)
      omega
  | succ n ih =>
    intro i x hi h0 h1 h2 h3
    have hil : i < l.length := by omega
    by_cases hx : x ≤ 400
    · have hzi := hz l[i] (List.getElem_mem hil)
      have e1 : wrap64 (x + ((l[i].f0.length : Nat) : Int)) = x + ((l[i].f0.length : Nat) : Int) := w64 (by omega) (by omega)
      obtain ⟨b, hb, hs⟩ := ih (i + 1) (x + ((l[i].f0.length : Nat) : Int)) (by omega) (by omega) (by omega) (by omega) (fun j hj hji => by
        by_cases hji' : j < i
        · have := h3 j hj hji'; omega
        · obtain rfl : j = i := by omega
          omega)
      refine ⟨b, Ev.step_ (fun K => ?_) hb, hs⟩
      rw [stockadelaw18_large.l0, if_pos (by omega), if_pos hx, if_pos (by omega), rd46 hil, e1, ws (by omega)]
    · refine ⟨true, Ev.step_ (g := fun _ => some true) (fun K => ?_) Ev.pure, fun h => by simp at h⟩
      rw [stockadelaw18_large.l0, if_pos (by omega), if_neg hx]
      have : x > 400 := by omega
      simp [this]
theorem large_ev (l : List S46) (hl : l.length ≤ 140737488351232) (hz : ∀ z ∈ l, z.f0.length ≤ 140737488351232) : ∃ b, Ev (fun k => stockadelaw18_large.f k l) b ∧ (b = false → Small l) :=
  large_l0 l hl hz l.length 0 l.length (by omega) (by omega) (by omega) (by omega) (fun j _ h => by omega)

/-! a table of one's own -/
theorem map_snoc {α β : Type} (f : α → β) {l : List α} {i : Nat} (h : i < l.length) : (l.take i).map f ++ [f l[i]] = (l.take (i + 1)).map f := by
  rw [List.take_succ_eq_append_getElem h, List.map_append]; rfl
theorem table_l1 (l : List S46) (hs : Small l) (i : Nat) (hi : i < l.length) (x3 : List S53) (h3 : x3.length ≤ 400) (r : List S53) (hr : Ev (fun k => stockadelaw18_Table.l0 k l (x3 ++ [tr l[i]]) (wrap64 ((i : Int) + 1))) r) :
    ∀ (n j : Nat), j + n = l[i].f0.length → Ev (fun k => stockadelaw18_Table.l1 k l x3 i j ((l[i].f0.take j).map tt) l[i].f1) r := by
  intro n
  have hlen := hs.2 l[i] (List.getElem_mem hi)
  induction n with
  | zero =>
    intro j hj
    refine Ev.step_ (fun K => ?_) hr
    rw [stockadelaw18_Table.l1, if_pos (by omega), if_pos (by omega), rd46 hi, if_neg (by omega), if_pos (by omega), List.take_of_length_le (by omega)]
    rfl
  | succ n ih =>
    intro j hj
    have hjl : j < l[i].f0.length := by omega
    refine Ev.step_ (fun K => ?_) (ih (j + 1) (by omega))
    rw [stockadelaw18_Table.l1, if_pos (by omega), if_pos (by omega), rd46 hi, if_pos (by omega), if_pos (by omega), rd55 hjl]
    simp only [stockadelaw18_Test.f, Option.bind_some]
    rw [if_pos (by rw [List.length_map, List.length_take]; omega), ws (by omega), ← map_snoc tt hjl]
    rfl
theorem table_l0 (l : List S46) (hs : Small l) : ∀ (n i : Nat), i + n = l.length → Ev (fun k => stockadelaw18_Table.l0 k l ((l.take i).map tr) i) (l.map tr) := by
  intro n
  have := hs.1
  induction n with
  | zero =>
    intro i hi
    refine Ev.step_ (g := fun _ => some (l.map tr)) (fun K => ?_) Ev.pure
    rw [stockadelaw18_Table.l0, if_neg (by omega), List.take_of_length_le (by omega)]
  | succ n ih =>
    intro i hi
    have hil : i < l.length := by omega
    refine Ev.step_ (g := fun k => stockadelaw18_Table.l1 k l ((l.take i).map tr) i 0 [] l[i].f1) (fun K => ?_) ?_
    · rw [stockadelaw18_Table.l0, if_pos (by omega), if_pos (by omega), rd46 hil]
    · have h := ih (i + 1) (by omega)
      rw [← map_snoc tr hil, ← ws (by omega)] at h
      exact table_l1 l hs i hil _ (by rw [List.length_map, List.length_take]; omega) _ h l[i].f0.length 0 (by omega)
theorem table_ev (l : List S46) (hs : Small l) : Ev (fun k => stockadelaw18_Table.f k l) (l.map tr) := table_l0 l hs l.length 0 (by omega)

/-! which rule may not be, and why -/
def chkV : List S53 → Int → Int × Int
  | [], _ => (0, 0)
  | r :: l, i => if r.f0.length > 8 then (i, 3) else if r.f0.all mayB = true then chkV l (i + 1) else (i, 1)
def checkV (l : List S53) : Int × Int := if l.length > 32 then (0, 3) else chkV l 0
theorem check_l1 (l : List S53) (hl : l.length ≤ 32) (i : Nat) (ts : List S50) (hts : ts.length ≤ 8) (x4 : Int) (r : Int × Int) (hr : Ev (fun k => rule_Check.l0 k l l.length (wrap64 ((i : Int) + 1))) r) :
    ∀ (n j : Nat), j + n = ts.length → Ev (fun k => rule_Check.l1 k x4 l l.length i ts ts.length j) (if (ts.drop j).all mayB = true then r else (x4, 1)) := by
  intro n
  induction n with
  | zero =>
    intro j hj
    refine Ev.step_ (g := fun k => rule_Check.l0 k l l.length (wrap64 ((i : Int) + 1))) (fun K => ?_) ?_
    · rw [rule_Check.l1, if_neg (by omega)]
    · rw [List.drop_eq_nil_of_le (by omega)]; simpa using hr
  | succ n ih =>
    intro j hj
    have hjl : j < ts.length := by omega
    have h := ih (j + 1) (by omega)
    refine Ev.step_ (g := fun k => (rule_may.f k ts[j].f0 ts[j].f1 ts[j].f2 ts[j].f3 ts[j].f4 ts[j].f5 ts[j].f6).bind fun t109 => if t109 = true then rule_Check.l1 k x4 l l.length i ts ts.length ((j + 1 : Nat) : Int) else some (x4, 1)) (fun K => ?_) (Ev.bind_ (may_ev ts[j]) ?_)
    · rw [rule_Check.l1, if_pos (by omega), if_pos (by omega), if_pos (by omega), rd50 hjl, ws (by omega)]
    · rw [drop_get hjl, List.all_cons]
      cases hm : mayB ts[j] with
      | true => simpa using h
      | false => simpa using Ev.pure
theorem check_l0 (l : List S53) (hl : l.length ≤ 32) : ∀ (n i : Nat), i + n = l.length → Ev (fun k => rule_Check.l0 k l l.length i) (chkV (l.drop i) i) := by
  intro n
  induction n with
  | zero =>
    intro i hi
    refine Ev.step_ (g := fun _ => some (0, 0)) (fun K => ?_) ?_
    · rw [rule_Check.l0, if_neg (by omega)]
    · rw [List.drop_eq_nil_of_le (by omega)]; exact Ev.pure
  | succ n ih =>
    intro i hi
    have hil : i < l.length := by omega
    have h := ih (i + 1) (by omega)
    rw [drop_get hil, chkV]
    by_cases h8 : l[i].f0.length > 8
    · rw [if_pos h8]
      refine Ev.step_ (g := fun _ => some ((i : Int), 3)) (fun K => ?_) Ev.pure
      rw [rule_Check.l0, if_pos (by omega), if_pos (by omega), if_pos (by omega), rd53 hil, if_pos (by omega)]
    · rw [if_neg h8]
      refine Ev.step_ (g := fun k => rule_Check.l1 k i l l.length i l[i].f0 l[i].f0.length 0) (fun K => ?_) ?_
      · rw [rule_Check.l0, if_pos (by omega), if_pos (by omega), if_pos (by omega), rd53 hil, if_neg (by omega)]
      · have h' : Ev (fun k => rule_Check.l0 k l l.length (wrap64 ((i : Int) + 1))) (chkV (l.drop (i + 1)) ((i : Int) + 1)) := by
          rw [ws (by omega)]; simpa using h
        have := check_l1 l hl i l[i].f0 (by omega) i _ h' l[i].f0.length 0 (by omega)
        simpa using this
theorem check_ev (l : List S53) : Ev (fun k => rule_Check.f k l) (checkV l) := by
  unfold checkV
  by_cases h : l.length > 32
  · rw [if_pos h]
    refine Ev.eqn (g := fun _ => some (0, 3)) (fun K => ?_) Ev.pure
    unfold rule_Check.f; rw [if_pos (by omega)]
  · rw [if_neg h]
    refine Ev.eqn (g := fun k => rule_Check.l0 k l l.length 0) (fun K => ?_) (by simpa using check_l0 l (by omega) l.length 0 (by omega))
    unfold rule_Check.f; rw [if_neg (by omega)]
/-- What a table that is checked holds. -/
theorem chk_ok : ∀ (l : List S53) (i : Int), (chkV l i).2 = 0 → ∀ r ∈ l, r.f0.length ≤ 8 ∧ ∀ t ∈ r.f0, mayB t = true := by
  intro l
  induction l with
  | nil => intro i _ r hr; simp at hr
  | cons x l ih =>
    intro i h r hr
    rw [chkV] at h
    by_cases h8 : x.f0.length > 8
    · rw [if_pos h8] at h; simp at h
    · rw [if_neg h8] at h
      by_cases ha : x.f0.all mayB = true
      · rw [if_pos ha] at h
        rcases List.mem_cons.1 hr with rfl | hr
        · exact ⟨by omega, fun t ht => List.all_eq_true.1 ha t ht⟩
        · exact ih _ h r hr
      · rw [if_neg ha] at h; simp at h
theorem check_ok {l : List S53} (h : (checkV l).2 = 0) : l.length ≤ 32 ∧ ∀ r ∈ l, r.f0.length ≤ 8 ∧ ∀ t ∈ r.f0, mayB t = true := by
  unfold checkV at h
  by_cases h32 : l.length > 32
  · rw [if_pos h32] at h; simp at h
  · rw [if_neg h32] at h; exact ⟨by omega, chk_ok l 0 h⟩
theorem ok_chk : ∀ (l : List S53) (i : Int), (∀ r ∈ l, r.f0.length ≤ 8 ∧ ∀ t ∈ r.f0, mayB t = true) → chkV l i = (0, 0) := by
  intro l
  induction l with
  | nil => intro i _; rfl
  | cons x l ih =>
    intro i h
    have h1 := h x List.mem_cons_self
    rw [chkV, if_neg (by omega), if_pos (List.all_eq_true.2 h1.2)]
    exact ih _ (fun r hr => h r (List.mem_cons_of_mem _ hr))
theorem ok_check {l : List S53} (hl : l.length ≤ 32) (h : ∀ r ∈ l, r.f0.length ≤ 8 ∧ ∀ t ∈ r.f0, mayB t = true) : checkV l = (0, 0) := by
  unfold checkV; rw [if_neg (by omega)]; exact ok_chk l 0 h
end Go.Proofs.YtighficpbplkhaaDoor.Pure
