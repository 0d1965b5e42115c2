/- Chapter 18, plain: the program reads a rule, a table. No conditions but the ones each theorem names. -/
import Derived.Test.YtighficpbplkhaaDoorQg
import Derived.Test.YtighficpbplkhaaDoorPx21
namespace Go.Proofs.YtighficpbplkhaaDoor.Pure
open Go.RowKit Go.Proofs.YtighficpbplkhaaDoorW.PrintWords Go.Proofs.YtighficpbplkhaaDoorW.PrintLast Go.Proofs.YtighficpbplkhaaDoorW.PrintMore Go.Proofs.YtighficpbplkhaaDoor.P
set_option linter.unusedVariables false
set_option linter.unusedSimpArgs false

/-! which bytes a printed rule has -/
def Plain (c : UInt8) : Prop := c ≠ 44 ∧ c ≠ 45 ∧ c ≠ 10
theorem dig_plain {c : UInt8} (h : IsDig c) : Plain c := by
  refine ⟨?_, ?_, ?_⟩ <;> intro e <;> rw [e] at h <;> exact absurd h (by unfold IsDig; decide)
theorem dg_plain {n : Int} : ∀ c ∈ dg n, Plain c := fun c hc => dig_plain (dg_dig c hc)
theorem app_plain {a b : List UInt8} (ha : ∀ c ∈ a, Plain c) (hb : ∀ c ∈ b, Plain c) : ∀ c ∈ a ++ b, Plain c := fun c hc => (List.mem_append.1 hc).elim (ha c) (hb c)
theorem cons_plain {x : UInt8} {b : List UInt8} (hx : Plain x) (hb : ∀ c ∈ b, Plain c) : ∀ c ∈ x :: b, Plain c := fun c hc => (List.mem_cons.1 hc).elim (fun e => e ▸ hx) (hb c)
theorem nil_plain : ∀ c ∈ ([] : List UInt8), Plain c := fun c hc => by simp at hc
theorem text_plain (t : S50) : ∀ c ∈ textL t, Plain c := by
  have p (x : UInt8) (h : x ≠ 44 ∧ x ≠ 45 ∧ x ≠ 10 := by decide) : Plain x := h
  have hn : ∀ c ∈ notL t.f0, Plain c := by
    unfold notL
    split
    · exact cons_plain (p _) (cons_plain (p _) (cons_plain (p _) (cons_plain (p _) nil_plain)))
    · exact nil_plain
  have hw : ∀ c ∈ wordL t.f1, Plain c := by
    unfold wordL
    split
    · exact cons_plain (p _) (cons_plain (p _) (cons_plain (p _) nil_plain))
    · split
      · exact cons_plain (p _) (cons_plain (p _) nil_plain)
      · split
        · exact nil_plain
        · exact cons_plain (p _) (cons_plain (p _) (cons_plain (p _) (cons_plain (p _) (cons_plain (p _) nil_plain))))
  have hm : ∀ c ∈ maskL t, Plain c := by
    unfold maskL
    split
    · exact nil_plain
    · exact cons_plain (p _) dg_plain
  have hh : ∀ c ∈ headL t, Plain c := by
    unfold headL
    refine app_plain hw ?_
    split
    · exact cons_plain (p _) (app_plain dg_plain (cons_plain (p _) (app_plain dg_plain hm)))
    · exact nil_plain
  unfold textL spanL
  exact app_plain hn (app_plain hh (cons_plain (p _) (app_plain dg_plain (cons_plain (p _) (cons_plain (p _) dg_plain)))))
theorem tests_no45 (ts : List S50) : (45 : UInt8) ∉ testsL ts ∧ (10 : UInt8) ∉ testsL ts := by
  unfold testsL
  split
  · decide
  · have key : ∀ (x : UInt8), x = 45 ∨ x = 10 → x ∉ Lib.join (ts.map textL) [44, 32] := by
      intro x hx hm
      cases ts with
      | nil => simp [Lib.join_nil] at hm
      | cons t r =>
        rw [List.map_cons, Lib.join_cons, List.mem_append] at hm
        rcases hm with hm | hm
        · have := text_plain t x hm; unfold Plain at this; rcases hx with rfl | rfl <;> simp at this
        · unfold Lib.joinTail at hm
          obtain ⟨l, hl, hxl⟩ := List.mem_flatten.1 hm
          obtain ⟨y, hy, rfl⟩ := List.mem_map.1 hl
          obtain ⟨u, _, rfl⟩ := List.mem_map.1 hy
          rcases List.mem_append.1 hxl with h | h
          · rcases hx with rfl | rfl <;> simp at h
          · have := text_plain u x h; unfold Plain at this; rcases hx with rfl | rfl <;> simp at this
    exact ⟨key 45 (.inl rfl), key 10 (.inr rfl)⟩
theorem line_no10 (ts : List S50) (v : Int) : (10 : UInt8) ∉ lineL ts v := by
  unfold lineL arrow
  simp only [List.mem_append, not_or]
  exact ⟨(tests_no45 ts).2, by decide, dg_not n10⟩
theorem cut_line (ts : List S50) (v : Int) : Lib.cut (lineL ts v) arrow = (testsL ts, dg v, true) := cut_at (no_arrow (tests_no45 ts).1)
theorem tests_any {ts : List S50} (h : ∀ t ∈ ts, Good t) : testsL ts = [97, 110, 121] ↔ ts = [] := by
  constructor
  · intro e
    cases ts with
    | nil => rfl
    | cons t r =>
      exfalso
      unfold testsL at e
      rw [if_neg (by simp), List.map_cons, Lib.join_cons] at e
      obtain ⟨c, l, hc, _, ha⟩ := head_first t (h t List.mem_cons_self)
      unfold textL notL at e
      split at e
      · simp at e
      · rw [hc] at e; simp at e; exact ha e.1
  · intro e; rw [e]; rfl

/-! a rule -/
theorem lar : (⟨#[32, 45, 62, 32]⟩ : ByteArray) = ⟨arrow.toArray⟩ := rfl
theorem lco : (⟨#[44, 32]⟩ : ByteArray) = ⟨([44, 32] : List UInt8).toArray⟩ := rfl
theorem count_eq (b : List UInt8) (h : b.length ≤ 65536) : rule_count.f ⟨b.toArray⟩ = some (cntN ⟨b.toArray⟩) := by
  unfold rule_count.f; rw [if_pos (by rw [mk_size]; omega)]
theorem rule_end (x : List UInt8) (acc : List S50) (v : Int) (h0 : 0 ≤ v) (h1 : v < 4294967296) (hg : ∀ t ∈ acc, Good t) :
    ∃ ts v' b, Ev (fun k => if (acc.length : Int) ≤ 8 then (rule_line.f k acc v).bind fun t => some (acc, v, t.toList == (⟨x.toArray⟩ : ByteArray).toList) else some (acc, v, false)) (ts, v', b) ∧ (b = true → Valid ⟨ts, v'⟩ ∧ x = lineL ts v') := by
  by_cases h8 : acc.length ≤ 8
  · refine ⟨acc, v, (⟨(lineL acc v).toArray⟩ : ByteArray).toList == (⟨x.toArray⟩ : ByteArray).toList, Ev.eqn (fun K => if_pos (by omega)) (Ev.bind_ (line_ev acc h8 hg v h0 h1) Ev.pure), fun h => ⟨⟨h8, hg, h0, h1⟩, ?_⟩⟩
    rw [mk_list, mk_list] at h
    exact (beq_iff_eq.1 h).symm
  · exact ⟨acc, v, false, Ev.eqn (fun K => if_neg (by omega)) Ev.pure, by simp⟩
theorem rdOf_get {l : List ByteArray} {i : Nat} (h : i < l.length) : rdOf ByteArray.empty l (i : Int) = l[i] := by simp [rdOf, List.getD, List.getElem?_eq_getElem h]
theorem rule_l0_any (x : List UInt8) (ps : List ByteArray) (hp : ps.length ≤ 100000) (hs : ∀ p ∈ ps, p.size ≤ 65536) (v : Int) (h0 : 0 ≤ v) (h1 : v < 4294967296) :
    ∀ (n i : Nat) (acc : List S50), i + n = ps.length → acc.length ≤ i → (∀ t ∈ acc, Good t) → ∃ ts v' b, Ev (fun k => rule_rule.l0 k ⟨x.toArray⟩ ps ps.length i acc v) (ts, v', b) ∧ (b = true → Valid ⟨ts, v'⟩ ∧ x = lineL ts v') := by
  intro n
  induction n with
  | zero =>
    intro i acc hi ha hg
    obtain ⟨ts, v', b, hev, hb⟩ := rule_end x acc v h0 h1 hg
    exact ⟨ts, v', b, Ev.step_ (fun K => by rw [rule_rule.l0, if_neg (by omega)]) hev, hb⟩
  | succ n ih =>
    intro i acc hi ha hg
    have hil : i < ps.length := by omega
    obtain ⟨t, m, ht, hgood⟩ := test_any ps[i].data.toList (by have := hs _ (List.getElem_mem hil); rw [Array.length_toList]; exact this)
    rw [← eq_mk] at ht
    have htest : Ev (fun k => rule_test.f k ps[i]) (t.f0, t.f1, t.f2, t.f3, t.f4, t.f5, t.f6, m) := by
      unfold rule_test.f
      exact Ev.bind_ ht Ev.pure
    cases m with
    | false =>
      refine ⟨[], 0, false, Ev.step_ (fun K => ?_) (Ev.bind_ htest (g := fun k b => if b.2.2.2.2.2.2.2 = true then rule_rule.l0 k ⟨x.toArray⟩ ps ps.length ((i + 1 : Nat) : Int) (acc ++ [⟨b.1, b.2.1, b.2.2.1, b.2.2.2.1, b.2.2.2.2.1, b.2.2.2.2.2.1, b.2.2.2.2.2.2.1⟩]) v else some ([], 0, false)) (by simpa using Ev.pure)), by simp⟩
      rw [rule_rule.l0, if_pos (by omega), if_pos (by omega), if_pos (by omega), rdOf_get hil, ws (by omega)]
      simp only [if_pos (show acc.length < 2513169434916 by omega)]
    | true =>
      obtain ⟨ts, v', b, hev, hb⟩ := ih (i + 1) (acc ++ [t]) (by omega) (by rw [List.length_append]; simp only [List.length_cons, List.length_nil]; omega) (fun y hy => by
        rcases List.mem_append.1 hy with h | h
        · exact hg y h
        · rw [List.mem_singleton.1 h]; exact hgood rfl)
      refine ⟨ts, v', b, Ev.step_ (fun K => ?_) (Ev.bind_ htest (g := fun k b => if b.2.2.2.2.2.2.2 = true then rule_rule.l0 k ⟨x.toArray⟩ ps ps.length ((i + 1 : Nat) : Int) (acc ++ [⟨b.1, b.2.1, b.2.2.1, b.2.2.2.1, b.2.2.2.2.1, b.2.2.2.2.2.1, b.2.2.2.2.2.2.1⟩]) v else some ([], 0, false)) (by simpa using hev)), hb⟩
      rw [rule_rule.l0, if_pos (by omega), if_pos (by omega), if_pos (by omega), rdOf_get hil, ws (by omega)]
      simp only [if_pos (show acc.length < 2513169434916 by omega)]
theorem rule_any (x : List UInt8) (hx : x.length ≤ 65536) : ∃ ts v b, Ev (fun k => rule_rule.f k ⟨x.toArray⟩) (ts, v, b) ∧ (b = true → Valid ⟨ts, v⟩ ∧ x = lineL ts v) := by
  have hc := cut_len x arrow
  have e := Cut_eq x arrow (by omega)
  generalize (Lib.cut x arrow).1 = a at hc e
  generalize (Lib.cut x arrow).2.1 = d at hc e
  generalize (Lib.cut x arrow).2.2 = ok at e
  have ec := count_eq d (by omega)
  have bd := cntN_bd ⟨d.toArray⟩
  have start : ∀ k, rule_rule.f k ⟨x.toArray⟩ = if ok = true then if cntB ⟨d.toArray⟩ = true then rule_rule.j0 k ⟨x.toArray⟩ ⟨a.toArray⟩ (cntN ⟨d.toArray⟩) true else rule_rule.j0 k ⟨x.toArray⟩ ⟨a.toArray⟩ (cntN ⟨d.toArray⟩) (decide (cntN ⟨d.toArray⟩ ≥ 4294967296)) else rule_rule.j0 k ⟨x.toArray⟩ ⟨a.toArray⟩ (cntN ⟨d.toArray⟩) true := fun k => by
    unfold rule_rule.f
    rw [lar, e, Option.bind_some]
    dsimp only
    rw [ec, Option.bind_some]
    unfold strconv_toError.f
    rw [Option.bind_some]
  have bad : ∃ ts v b, Ev (fun k => rule_rule.j0 k ⟨x.toArray⟩ ⟨a.toArray⟩ (cntN ⟨d.toArray⟩) true) (ts, v, b) ∧ (b = true → Valid ⟨ts, v⟩ ∧ x = lineL ts v) :=
    ⟨[], 0, false, Ev.step_ (g := fun _ => some ([], 0, false)) (fun K => by rw [rule_rule.j0, if_pos rfl]) Ev.pure, by simp⟩
  by_cases c : ok = true ∧ cntB ⟨d.toArray⟩ = false ∧ cntN ⟨d.toArray⟩ < 4294967296
  · obtain ⟨c1, c2, c3⟩ := c
    have e3 : ∀ k, rule_rule.f k ⟨x.toArray⟩ = rule_rule.j0 k ⟨x.toArray⟩ ⟨a.toArray⟩ (cntN ⟨d.toArray⟩) false := fun k => by
      rw [start, if_pos c1, if_neg (by rw [c2]; simp), decide_eq_false (by omega)]
    have e4 : cntN ⟨d.toArray⟩ % 4294967296 = cntN ⟨d.toArray⟩ := by omega
    by_cases ca : a = [97, 110, 121]
    · obtain ⟨ts, v', b, hev, hb⟩ := rule_end x [] (cntN ⟨d.toArray⟩) bd.1 c3 (fun t ht => by simp at ht)
      refine ⟨ts, v', b, Ev.eqn e3 (Ev.step_ (fun K => ?_) hev), hb⟩
      rw [rule_rule.j0, if_neg (by simp), if_pos (by rw [mk_list]; exact ca), e4]
    · have hsp : strings_Split.f ⟨a.toArray⟩ ⟨([44, 32] : List UInt8).toArray⟩ = some (Lib.splitB ⟨([44, 32] : List UInt8).toArray⟩ 0 (Lib.countB ⟨a.toArray⟩ ⟨([44, 32] : List UInt8).toArray⟩) ⟨a.toArray⟩) := by
        unfold strings_Split.f
        rw [if_pos ⟨by rw [mk_size]; omega, by rw [mk_size]; decide⟩]
      have hlen := Lib.splitB_length_le ⟨([44, 32] : List UInt8).toArray⟩ 0 (Lib.countB ⟨a.toArray⟩ ⟨([44, 32] : List UInt8).toArray⟩) ⟨a.toArray⟩
      have hcl := Lib.countB_le ⟨([44, 32] : List UInt8).toArray⟩ (by rw [mk_size]; decide) _ ⟨a.toArray⟩ (Nat.le_refl _)
      have hsz := splitB_sizes ⟨([44, 32] : List UInt8).toArray⟩ (Lib.countB ⟨a.toArray⟩ ⟨([44, 32] : List UInt8).toArray⟩) ⟨a.toArray⟩
      rw [mk_size] at hcl
      generalize Lib.splitB ⟨([44, 32] : List UInt8).toArray⟩ 0 (Lib.countB ⟨a.toArray⟩ ⟨([44, 32] : List UInt8).toArray⟩) ⟨a.toArray⟩ = ps at hsp hlen hsz
      obtain ⟨ts, v', b, hev, hb⟩ := rule_l0_any x ps (by omega) (fun p hp => by have := hsz p hp; have em := mk_size a; omega) (cntN ⟨d.toArray⟩) bd.1 c3 ps.length 0 [] (by omega) (by simp) (fun t ht => by simp at ht)
      refine ⟨ts, v', b, Ev.eqn e3 (Ev.step_ (fun K => ?_) hev), hb⟩
      rw [rule_rule.j0, if_neg (by simp), if_neg (by rw [mk_list]; exact ca), lco, hsp, Option.bind_some, e4]
      rfl
  · obtain ⟨ts, v, b, hev, hb⟩ := bad
    refine ⟨ts, v, b, Ev.eqn (fun K => ?_) hev, hb⟩
    rw [start]
    by_cases c1 : ok = true
    · rw [if_pos c1]
      by_cases c2 : cntB ⟨d.toArray⟩ = true
      · rw [if_pos c2]
      · have : cntN ⟨d.toArray⟩ ≥ 4294967296 := by
          refine Decidable.byContradiction fun h => c ⟨c1, by simpa using c2, by omega⟩
        rw [if_neg c2, decide_eq_true this]
    · rw [if_neg c1]
theorem rule_l0_text (ts : List S50) (v : Int) (hv : Valid ⟨ts, v⟩) (ps : List ByteArray) (hp : ps = ts.map fun t => (⟨(textL t).toArray⟩ : ByteArray)) :
    ∀ (n i : Nat), i + n = ts.length → Ev (fun k => rule_rule.l0 k ⟨(lineL ts v).toArray⟩ ps ps.length i (ts.take i) v) (ts, v, true) := by
  obtain ⟨h8, hg, h0, h1⟩ := hv
  have h8' : ts.length ≤ 8 := h8
  have hpl : ps.length = ts.length := by rw [hp, List.length_map]
  intro n
  induction n with
  | zero =>
    intro i hi
    refine Ev.step_ (g := fun k => (rule_line.f k ts v).bind fun t => some (ts, v, t.toList == (⟨(lineL ts v).toArray⟩ : ByteArray).toList)) (fun K => ?_) (Ev.bind_ (line_ev ts h8' hg v h0 h1) ?_)
    · rw [rule_rule.l0, if_neg (by omega), List.take_of_length_le (by omega), if_pos (by omega)]
    · simpa using Ev.pure
  | succ n ih =>
    intro i hi
    have hil : i < ts.length := by omega
    have hip : i < ps.length := by omega
    have hpi : ps[i] = ⟨(textL ts[i]).toArray⟩ := by simp [hp]
    have htest : Ev (fun k => rule_test.f k ps[i]) (ts[i].f0, ts[i].f1, ts[i].f2, ts[i].f3, ts[i].f4, ts[i].f5, ts[i].f6, true) := by
      unfold rule_test.f
      rw [hpi]
      exact Ev.bind_ (test_text _ (hg _ (List.getElem_mem hil))) Ev.pure
    have nx := ih (i + 1) (by omega)
    rw [List.take_succ_eq_append_getElem hil] at nx
    refine Ev.step_ (fun K => ?_) (Ev.bind_ htest (g := fun k b => if b.2.2.2.2.2.2.2 = true then rule_rule.l0 k ⟨(lineL ts v).toArray⟩ ps ps.length ((i + 1 : Nat) : Int) (ts.take i ++ [⟨b.1, b.2.1, b.2.2.1, b.2.2.2.1, b.2.2.2.2.1, b.2.2.2.2.2.1, b.2.2.2.2.2.2.1⟩]) v else some ([], 0, false)) (Ev.eqn (fun K => if_pos rfl) nx))
    rw [rule_rule.l0, if_pos (by omega), if_pos (by omega), if_pos (by omega), rdOf_get hip, ws (by omega)]
    simp only [if_pos (show (ts.take i).length < 2513169434916 by rw [List.length_take]; omega)]
theorem rule_text (ts : List S50) (v : Int) (hv : Valid ⟨ts, v⟩) : Ev (fun k => rule_rule.f k ⟨(lineL ts v).toArray⟩) (ts, v, true) := by
  obtain ⟨h8, hg, h0, h1⟩ := hv
  have h8' : ts.length ≤ 8 := h8
  have h0 : 0 ≤ v := h0
  have h1 : v < 4294967296 := h1
  have hll := lineL_len ts v h8' hg h0 h1
  have htl := testsL_len ts h8' hg
  have dv := dg_len (n := v) h0 (by omega)
  have e := Cut_eq (lineL ts v) arrow (by omega)
  rw [cut_line] at e
  have ec := count_eq (dg v) (by omega)
  rw [cntN_dg h0 (by omega)] at ec
  have e4 : v % 4294967296 = v := by omega
  have st : ∀ k, rule_rule.f k ⟨(lineL ts v).toArray⟩ = rule_rule.j0 k ⟨(lineL ts v).toArray⟩ ⟨(testsL ts).toArray⟩ v false := fun k => by
    unfold rule_rule.f
    rw [lar, e, Option.bind_some]
    dsimp only
    rw [ec, Option.bind_some]
    unfold strconv_toError.f
    rw [Option.bind_some, cntB_dg h0 (by omega), if_pos rfl, if_neg (by simp), decide_eq_false (by omega)]
  refine Ev.eqn st ?_
  cases hts : ts with
  | nil =>
    subst hts
    refine Ev.step_ (g := fun k => (rule_line.f k [] v).bind fun t => some ([], v, t.toList == (⟨(lineL [] v).toArray⟩ : ByteArray).toList)) (fun K => ?_) (Ev.bind_ (line_ev [] (by simp) hg v h0 h1) (by simpa using Ev.pure))
    rw [rule_rule.j0, if_neg (by simp), if_pos (by rw [mk_list]; rfl), e4, if_pos (by simp)]
  | cons t r =>
    rw [hts] at hg h8 htl
    have et : testsL (t :: r) = Lib.join ((t :: r).map textL) [44, 32] := by unfold testsL; rw [if_neg (by simp)]
    have hsp := Split_eq t r (fun x hx hc => (text_plain x 44 hc).1 rfl) (by rw [← et]; omega)
    rw [← et] at hsp
    have hl := rule_l0_text (t :: r) v ⟨h8, hg, h0, h1⟩ _ rfl (t :: r).length 0 (by omega)
    refine Ev.step_ (fun K => ?_) hl
    rw [rule_rule.j0, if_neg (by simp), if_neg (by rw [mk_list, tests_any hg]; simp), hsp, Option.bind_some, e4]
    rfl
end Go.Proofs.YtighficpbplkhaaDoor.Pure
