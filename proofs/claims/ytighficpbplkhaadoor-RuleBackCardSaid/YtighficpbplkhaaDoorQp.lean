/- Chapter 18, plain: the program reads a table. No conditions but the ones each theorem names. -/
import Derived.Test.YtighficpbplkhaaDoorQh
namespace Go.Proofs.YtighficpbplkhaaDoor.Pure
open Go.RowKit Go.Proofs.YtighficpbplkhaaDoorW.PrintWords Go.Proofs.YtighficpbplkhaaDoorW.PrintLast Go.Proofs.YtighficpbplkhaaDoorW.PrintMore Go.Proofs.YtighficpbplkhaaDoor.P
set_option linter.unusedVariables false
set_option linter.unusedSimpArgs false

def IsLine (x : List UInt8) (r : S53) : Prop := Valid r ∧ x = lineL r.f0 r.f1
theorem line_inj {x : List UInt8} {r s : S53} (hr : IsLine x r) (hs : IsLine x s) : r = s := by
  have a := rule_text r.f0 r.f1 hr.1
  have b := rule_text s.f0 s.f1 hs.1
  rw [← hr.2] at a
  rw [← hs.2] at b
  obtain ⟨K, hK⟩ := a
  obtain ⟨L, hL⟩ := b
  have h1 := hK (max K L) (by omega)
  have h2 := hL (max K L) (by omega)
  rw [h1] at h2
  simp only [Option.some.injEq, Prod.mk.injEq, and_true] at h2
  obtain ⟨r0, r1⟩ := r
  obtain ⟨s0, s1⟩ := s
  simp only at h2
  rw [h2.1, h2.2]
open Classical in
noncomputable def readO (x : List UInt8) : Option S53 := if h : ∃ r, IsLine x r then some (Classical.choose h) else none
theorem readO_some {x : List UInt8} {r : S53} : readO x = some r ↔ IsLine x r := by
  unfold readO
  constructor
  · intro h
    split at h
    · rename_i hx
      rw [← Option.some.inj h]
      exact Classical.choose_spec hx
    · simp at h
  · intro h
    have hx : ∃ r, IsLine x r := ⟨r, h⟩
    rw [dif_pos hx]
    exact congrArg some (line_inj (Classical.choose_spec hx) h)
theorem rule_ev (x : List UInt8) (hx : x.length ≤ 65536) : ∃ ts v, Ev (fun k => rule_rule.f k ⟨x.toArray⟩) (ts, v, (readO x).isSome) ∧ ∀ r, readO x = some r → r = ⟨ts, v⟩ := by
  obtain ⟨ts, v, b, hev, hb⟩ := rule_any x hx
  cases hr : readO x with
  | none =>
    cases b with
    | false => exact ⟨ts, v, hev, fun r h => by simp at h⟩
    | true =>
      obtain ⟨h1, h2⟩ := hb rfl
      have := readO_some.2 (⟨h1, h2⟩ : IsLine x ⟨ts, v⟩)
      rw [hr] at this; simp at this
  | some r =>
    have h := readO_some.1 hr
    have ht := rule_text r.f0 r.f1 h.1
    rw [← h.2] at ht
    exact ⟨r.f0, r.f1, ht, fun s hs => by obtain rfl := Option.some.inj hs; rfl⟩
/-- The lines of a text, one by one: n is the line's number. -/
noncomputable def parseG : Nat → List UInt8 → List S53 → Int → List S53 × Int × Int
  | 0, _, acc, _ => (acc, 0, 0)
  | f + 1, s, acc, n => if s = [] then (acc, 0, 0) else if (Lib.cut s [10]).2.2 = true then match readO (Lib.cut s [10]).1 with
      | none => ([], n, 5)
      | some r => if n > 32 then ([], n, 3) else parseG f (Lib.cut s [10]).2.1 (acc ++ [r]) (n + 1)
    else ([], n, 5)
theorem cut_rest {s : List UInt8} (h : (Lib.cut s [10]).2.2 = true) : s = (Lib.cut s [10]).1 ++ 10 :: (Lib.cut s [10]).2.1 ∧ 10 ∉ (Lib.cut s [10]).1 := by
  rcases Lib.index_spec s [10] with ⟨h1, _⟩ | ⟨i, h1, h2, h3, h4⟩
  · unfold Lib.cut at h; rw [h1, if_neg (by omega)] at h; simp at h
  · have hroom := Lib.occAt_room h3
    have hc : s[i]? = some 10 := by have := occ_char (i := 0) (c := 10) h3 rfl; simpa using this
    obtain ⟨hi, hg⟩ := List.getElem?_eq_some_iff.1 hc
    have e : Lib.cut s [10] = (s.take i, s.drop (i + 1), true) := by
      unfold Lib.cut; rw [h1, if_pos (by omega), Int.toNat_natCast]; rfl
    rw [e]
    refine ⟨?_, fun hm => ?_⟩
    · show s = s.take i ++ 10 :: s.drop (i + 1)
      rw [← hg, ← List.drop_eq_getElem_cons hi, List.take_append_drop]
    · obtain ⟨j, hj, hje⟩ := List.getElem_of_mem hm
      rw [List.length_take] at hj
      rw [List.getElem_take] at hje
      have hocc : Lib.occAt s [10] j = true := by
        unfold Lib.occAt
        rw [List.drop_eq_getElem_cons (show j < s.length by omega), hje]
        rfl
      exact absurd hocc (by simp [h4 j (by omega)])
theorem parse_l0 : ∀ (f : Nat) (s : List UInt8) (acc : List S53) (n : Int), s.length < f → s.length ≤ 65536 → 1 ≤ n → n ≤ 33 → acc.length ≤ 40 → (acc.length : Int) ≤ n → Ev (fun k => rule_Parse.l0 k ⟨s.toArray⟩ acc n) (parseG f s acc n) := by
  intro f
  induction f with
  | zero => intro s acc n h; omega
  | succ f ih =>
    intro s acc n hf hs h1 h2 ha han
    rw [parseG]
    by_cases hn : s = []
    · rw [if_pos hn]
      exact Ev.step_ (g := fun _ => some (acc, 0, 0)) (fun K => by rw [rule_Parse.l0, if_pos (by rw [mk_list]; exact hn)]) Ev.pure
    · rw [if_neg hn]
      have hc := cut_len s [10]
      have e := Cut_eq s [10] (by omega)
      have l10 : (⟨#[10]⟩ : ByteArray) = ⟨([10] : List UInt8).toArray⟩ := rfl
      obtain ⟨ts, v, hev, hr⟩ := rule_ev (Lib.cut s [10]).1 (by omega)
      have bad : Ev (fun k => rule_Parse.j1 k acc n ⟨(Lib.cut s [10]).2.1.toArray⟩ true ts v) ([], n, 5) :=
        Ev.step_ (g := fun _ => some ([], n, 5)) (fun K => by rw [rule_Parse.j1, if_pos rfl]) Ev.pure
      refine Ev.step_ (g := fun k => (rule_rule.f k ⟨(Lib.cut s [10]).1.toArray⟩).bind fun b => if b.2.2 = true then rule_Parse.j1 k acc n ⟨(Lib.cut s [10]).2.1.toArray⟩ (!(Lib.cut s [10]).2.2) b.1 b.2.1 else rule_Parse.j1 k acc n ⟨(Lib.cut s [10]).2.1.toArray⟩ true b.1 b.2.1) (fun K => ?_) (Ev.bind_ hev ?_)
      · rw [rule_Parse.l0, if_neg (by rw [mk_list]; exact hn), l10, e, Option.bind_some]
      · cases hq : readO (Lib.cut s [10]).1 with
        | none =>
          have e1 : (if (Lib.cut s [10]).2.2 = true then (match (none : Option S53) with | none => (([] : List S53), n, (5 : Int)) | some r => if n > 32 then ([], n, 3) else parseG f (Lib.cut s [10]).2.1 (acc ++ [r]) (n + 1)) else ([], n, 5)) = ([], n, 5) := by split <;> rfl
          rw [e1]
          exact Ev.eqn (fun K => if_neg (by simp)) bad
        | some r =>
          obtain rfl := hr r hq
          refine Ev.eqn (fun K => if_pos rfl) ?_
          by_cases ht : (Lib.cut s [10]).2.2 = true
          · rw [if_pos ht, ht]
            dsimp only
            by_cases h32 : n > 32
            · rw [if_pos h32]
              exact Ev.step_ (g := fun _ => some ([], n, 3)) (fun K => by rw [rule_Parse.j1, if_neg (by simp), if_pos h32]) Ev.pure
            · rw [if_neg h32]
              have hrest := (cut_rest ht).1
              have hlen : (Lib.cut s [10]).2.1.length < s.length := by
                have := congrArg List.length hrest
                simp only [List.length_append, List.length_cons] at this
                omega
              refine Ev.step_ (fun K => ?_) (ih (Lib.cut s [10]).2.1 (acc ++ [⟨ts, v⟩]) (n + 1) (by omega) (by omega) (by omega) (by omega) (by rw [List.length_append]; simp only [List.length_cons, List.length_nil]; omega) (by rw [List.length_append]; simp only [List.length_cons, List.length_nil]; omega))
              rw [rule_Parse.j1, if_neg (by simp), if_neg h32, if_pos (by omega), w64 (n := n + 1) (by omega) (by omega)]
          · rw [if_neg ht]
            have : (Lib.cut s [10]).2.2 = false := by simpa using ht
            rw [this]
            exact bad
noncomputable def parseV (s : List UInt8) : List S53 × Int × Int := parseG (s.length + 1) s [] 1
theorem parse_ev (s : List UInt8) (h : s.length ≤ 65536) : Ev (fun k => rule_Parse.f k ⟨s.toArray⟩) (parseV s) := by
  refine Ev.eqn (fun K => ?_) (parse_l0 (s.length + 1) s [] 1 (by omega) h (by omega) (by omega) (by simp) (by simp))
  unfold rule_Parse.f
  rw [if_neg (by rw [mk_size]; omega)]

/-! there and back -/
theorem parse_print : ∀ (l : List S53) (f : Nat) (acc : List S53) (n : Int), (∀ r ∈ l, Valid r) → (printL l).length < f → n + l.length ≤ 33 → parseG f (printL l) acc n = (acc ++ l, 0, 0) := by
  intro l
  induction l with
  | nil =>
    intro f acc n _ hf _
    cases f with
    | zero => simp [printL] at hf
    | succ f => rw [parseG, if_pos (by simp [printL])]; simp
  | cons r l ih =>
    intro f acc n hv hf hn
    cases f with
    | zero => omega
    | succ f =>
      have e : printL (r :: l) = lineL r.f0 r.f1 ++ ([10] ++ printL l) := by simp [printL, rowL]
      have c : Lib.cut (printL (r :: l)) [10] = (lineL r.f0 r.f1, printL l, true) := by rw [e]; exact cut_at (no_occ (c := 10) rfl (line_no10 _ _))
      have hl : (printL l).length < f := by
        have := congrArg List.length e
        simp only [List.length_append, List.length_cons, List.length_nil] at this
        omega
      have hr : readO (lineL r.f0 r.f1) = some r := readO_some.2 ⟨hv r List.mem_cons_self, rfl⟩
      simp only [List.length_cons] at hn
      rw [parseG, if_neg (by rw [e]; simp), c, if_pos rfl]
      dsimp only
      rw [hr]
      dsimp only
      rw [if_neg (by omega), ih f (acc ++ [r]) (n + 1) (fun x hx => hv x (List.mem_cons_of_mem _ hx)) hl (by omega), List.append_assoc]
      rfl
theorem parse_back : ∀ (f : Nat) (s : List UInt8) (acc : List S53) (n : Int), s.length < f → 1 ≤ n → (acc.length : Int) + 1 = n → (∀ r ∈ acc, Valid r) →
    ((parseG f s acc n).2.2 = 0 → ∃ l, parseG f s acc n = (acc ++ l, 0, 0) ∧ (∀ r ∈ l, Valid r) ∧ s = printL l ∧ (acc ++ l).length ≤ 32 ∨ (s = [] ∧ parseG f s acc n = (acc, 0, 0))) ∧ ((parseG f s acc n).2.2 ≠ 0 → (parseG f s acc n).1 = [] ∧ 0 < (parseG f s acc n).2.1) := by
  intro f
  induction f with
  | zero => intro s acc n h; omega
  | succ f ih =>
    intro s acc n hf h1 hacc hv
    rw [parseG]
    by_cases hn : s = []
    · rw [if_pos hn]
      exact ⟨fun _ => ⟨[], .inr ⟨hn, rfl⟩⟩, fun h => absurd rfl h⟩
    · rw [if_neg hn]
      by_cases ht : (Lib.cut s [10]).2.2 = true
      · rw [if_pos ht]
        cases hq : readO (Lib.cut s [10]).1 with
        | none => exact ⟨fun h => by simp at h, fun _ => ⟨rfl, by show 0 < n; omega⟩⟩
        | some r =>
          dsimp only
          by_cases h32 : n > 32
          · rw [if_pos h32]; exact ⟨fun h => by simp at h, fun _ => ⟨rfl, by show 0 < n; omega⟩⟩
          · rw [if_neg h32]
            obtain ⟨hrest, _⟩ := cut_rest ht
            have hlen : (Lib.cut s [10]).2.1.length < s.length := by
              have := congrArg List.length hrest
              simp only [List.length_append, List.length_cons] at this
              omega
            have hl := readO_some.1 hq
            have hv' : ∀ x ∈ acc ++ [r], Valid x := fun x hx => by
              rcases List.mem_append.1 hx with h | h
              · exact hv x h
              · rw [List.mem_singleton.1 h]; exact hl.1
            obtain ⟨i1, i2⟩ := ih (Lib.cut s [10]).2.1 (acc ++ [r]) (n + 1) (by omega) (by omega) (by rw [List.length_append]; simp only [List.length_cons, List.length_nil]; omega) hv'
            refine ⟨fun h => ?_, i2⟩
            obtain ⟨l, h | ⟨he, h⟩⟩ := i1 h
            · obtain ⟨p1, p2, p3, p4⟩ := h
              refine ⟨r :: l, .inl ⟨by rw [p1, List.append_assoc]; rfl, fun x hx => ?_, ?_, by rw [List.append_assoc] at p4; exact p4⟩⟩
              · rcases List.mem_cons.1 hx with rfl | hx
                · exact hl.1
                · exact p2 x hx
              · have e : printL (r :: l) = lineL r.f0 r.f1 ++ ([10] ++ printL l) := by simp [printL, rowL]
                rw [e, ← p3, ← hl.2]; exact hrest
            · refine ⟨[r], .inl ⟨h, fun x hx => ?_, ?_, by rw [List.length_append]; simp only [List.length_cons, List.length_nil]; omega⟩⟩
              · rw [List.mem_singleton.1 hx]; exact hl.1
              · have e : printL [r] = lineL r.f0 r.f1 ++ ([10] ++ []) := by simp [printL, rowL]
                have hr2 := hrest
                rw [he] at hr2
                rw [e, ← hl.2]; exact hr2
      · rw [if_neg ht]
        exact ⟨fun h => by simp at h, fun _ => ⟨rfl, by show 0 < n; omega⟩⟩
theorem parseV_ok {s : List UInt8} (h : (parseV s).2.2 = 0) : ∃ l, parseV s = (l, 0, 0) ∧ (∀ r ∈ l, Valid r) ∧ s = printL l ∧ l.length ≤ 32 := by
  obtain ⟨i1, _⟩ := parse_back (s.length + 1) s [] 1 (by omega) (by omega) (by simp) (fun r hr => by simp at hr)
  obtain ⟨l, ⟨p1, p2, p3, p4⟩ | ⟨he, h2⟩⟩ := i1 h
  · exact ⟨l, p1, p2, p3, p4⟩
  · exact ⟨[], h2, fun r hr => by simp at hr, by rw [he]; rfl, by simp⟩
theorem parseV_bad {s : List UInt8} (h : (parseV s).2.2 ≠ 0) : (parseV s).1 = [] ∧ 0 < (parseV s).2.1 :=
  (parse_back (s.length + 1) s [] 1 (by omega) (by omega) (by simp) (fun r hr => by simp at hr)).2 h
end Go.Proofs.YtighficpbplkhaaDoor.Pure
