/- Chapter 18, plain: the program reads a test, a rule. No conditions but the ones each theorem names. -/
import Derived.Test.YtighficpbplkhaaDoorQf
namespace Go.Proofs.YtighficpbplkhaaDoor.Pure
open Go.RowKit Go.Proofs.YtighficpbplkhaaDoorW.PrintWords Go.Proofs.YtighficpbplkhaaDoorW.PrintLast Go.Proofs.YtighficpbplkhaaDoorW.PrintMore Go.Proofs.YtighficpbplkhaaDoor.P
set_option linter.unusedVariables false
set_option linter.unusedSimpArgs false

theorem l46 : (⟨#[46, 46]⟩ : ByteArray) = ⟨([46, 46] : List UInt8).toArray⟩ := rfl
theorem l32 : (⟨#[32]⟩ : ByteArray) = ⟨([32] : List UInt8).toArray⟩ := rfl
theorem l64 : (⟨#[64]⟩ : ByteArray) = ⟨([64] : List UInt8).toArray⟩ := rfl
theorem l47 : (⟨#[47]⟩ : ByteArray) = ⟨([47] : List UInt8).toArray⟩ := rfl
theorem l117 : (⟨#[117]⟩ : ByteArray) = ⟨([117] : List UInt8).toArray⟩ := rfl
theorem lnot : (⟨#[110, 111, 116, 32]⟩ : ByteArray) = ⟨([110, 111, 116, 32] : List UInt8).toArray⟩ := rfl
theorem tail_any (span : List UInt8) (hl : span.length ≤ 65536) (ok b : Bool) (t : S50) : ∃ r m, Ev (fun k => tailF k ⟨span.toArray⟩ ok b t) (r, m) ∧ (m = true → Good r) := by
  have hc := cut_len span [46, 46]
  have hs : (⟨(Lib.cut span [46, 46]).1.toArray⟩ : ByteArray).size ≤ 281474976710656 ∧ (⟨(Lib.cut span [46, 46]).2.1.toArray⟩ : ByteArray).size ≤ 281474976710656 := by rw [mk_size, mk_size]; omega
  have e := Cut_eq span [46, 46] (by omega)
  generalize (⟨(Lib.cut span [46, 46]).1.toArray⟩ : ByteArray) = lo at hs e
  generalize (⟨(Lib.cut span [46, 46]).2.1.toArray⟩ : ByteArray) = hi at hs e
  generalize (Lib.cut span [46, 46]).2.2 = two at e
  by_cases h1 : (ok && two) = true
  · by_cases h2 : ((b || cntB lo) || cntB hi) = true
    · refine ⟨_, false, Ev.eqn (g := fun _ => some (⟨t.f0, t.f1, t.f2, t.f3, t.f4, cntN lo, cntN hi⟩, false)) (fun K => ?_) Ev.pure, by simp⟩
      unfold tailF
      rw [l46, e, Option.bind_some, if_pos hs, if_pos h1, if_pos h2]
    · refine ⟨⟨t.f0, t.f1, t.f2, t.f3, t.f4, cntN lo, cntN hi⟩, mayB ⟨t.f0, t.f1, t.f2, t.f3, t.f4, cntN lo, cntN hi⟩, Ev.eqn (fun K => ?_) (Ev.bind_ (g := fun _ m => some ((⟨t.f0, t.f1, t.f2, t.f3, t.f4, cntN lo, cntN hi⟩ : S50), m)) (may_ev ⟨t.f0, t.f1, t.f2, t.f3, t.f4, cntN lo, cntN hi⟩) Ev.pure), fun h => ⟨h, (cntN_bd lo).1⟩⟩
      unfold tailF
      rw [l46, e, Option.bind_some, if_pos hs, if_pos h1, if_neg h2]
  · refine ⟨_, false, Ev.eqn (g := fun _ => some (⟨t.f0, t.f1, t.f2, t.f3, t.f4, cntN lo, cntN hi⟩, false)) (fun K => ?_) Ev.pure, by simp⟩
    unfold tailF
    rw [l46, e, Option.bind_some, if_pos hs, if_neg h1]
theorem bytes_any (what span : List UInt8) (hw : what.length ≤ 65536) (hl : span.length ≤ 65536) (ok : Bool) (kind : Int) (nt : Bool) : ∃ r m, Ev (fun k => bytesF k ⟨what.toArray⟩ ⟨span.toArray⟩ ok kind nt) (r, m) ∧ (m = true → Good r) := by
  have h1 := cut_len what [64]
  have e1 := Cut_eq what [64] (by omega)
  generalize (Lib.cut what [64]).1 = a at h1 e1
  generalize (Lib.cut what [64]).2.1 = p at h1 e1
  generalize (Lib.cut what [64]).2.2 = two at e1
  have h2 := cut_len p [47]
  have e2 := Cut_eq p [47] (by omega)
  generalize (Lib.cut p [47]).1 = b at h2 e2
  generalize (Lib.cut p [47]).2.1 = m at h2 e2
  generalize (Lib.cut p [47]).2.2 = some_ at e2
  have e3 := TrimPrefix_eq a [117]
  obtain ⟨z, hz, hzl⟩ : ∃ z : List UInt8, strings_TrimPrefix.f ⟨a.toArray⟩ ⟨([117] : List UInt8).toArray⟩ = some ⟨z.toArray⟩ ∧ z.length ≤ a.length := by
    rw [e3]
    split
    · exact ⟨_, rfl, by rw [List.length_drop]; omega⟩
    · exact ⟨_, rfl, Nat.le_refl _⟩
  have hs : (⟨z.toArray⟩ : ByteArray).size ≤ 281474976710656 ∧ (⟨b.toArray⟩ : ByteArray).size ≤ 281474976710656 ∧ (⟨m.toArray⟩ : ByteArray).size ≤ 281474976710656 := by rw [mk_size, mk_size, mk_size]; omega
  by_cases c1 : some_ = true
  · obtain ⟨r, q, hev, hq⟩ := tail_any span hl (ok && two) ((cntB ⟨z.toArray⟩ || cntB ⟨b.toArray⟩) || cntB ⟨m.toArray⟩) ⟨nt, kind, atV (cntN ⟨b.toArray⟩), sizeV (cntN ⟨z.toArray⟩), cntN ⟨m.toArray⟩, 0, 0⟩
    refine ⟨r, q, Ev.eqn (fun K => ?_) hev, hq⟩
    unfold bytesF
    rw [l64, l47, l117, e1, Option.bind_some, e2, Option.bind_some, hz, Option.bind_some, if_pos hs, if_pos c1]
  · by_cases c2 : 1 ≤ sizeV (cntN ⟨z.toArray⟩) ∧ sizeV (cntN ⟨z.toArray⟩) ≤ 8
    · obtain ⟨r, q, hev, hq⟩ := tail_any span hl (ok && two) (cntB ⟨z.toArray⟩ || cntB ⟨b.toArray⟩) ⟨nt, kind, atV (cntN ⟨b.toArray⟩), sizeV (cntN ⟨z.toArray⟩), fullV (sizeV (cntN ⟨z.toArray⟩)), 0, 0⟩
      refine ⟨r, q, Ev.eqn (fun K => ?_) hev, hq⟩
      unfold bytesF
      rw [l64, l47, l117, e1, Option.bind_some, e2, Option.bind_some, hz, Option.bind_some, if_pos hs, if_neg c1, if_pos c2, full_eq c2.1 c2.2, Option.bind_some]
    · obtain ⟨r, q, hev, hq⟩ := tail_any span hl (ok && two) (cntB ⟨z.toArray⟩ || cntB ⟨b.toArray⟩) ⟨nt, kind, atV (cntN ⟨b.toArray⟩), sizeV (cntN ⟨z.toArray⟩), 0, 0, 0⟩
      refine ⟨r, q, Ev.eqn (fun K => ?_) hev, hq⟩
      unfold bytesF
      rw [l64, l47, l117, e1, Option.bind_some, e2, Option.bind_some, hz, Option.bind_some, if_pos hs, if_neg c1, if_neg c2]
theorem rest_any (what span : List UInt8) (hw : what.length ≤ 65536) (hl : span.length ≤ 65536) (ok : Bool) (kind : Int) (nt : Bool) : ∃ r m, Ev (fun k => restF k ⟨what.toArray⟩ ⟨span.toArray⟩ ok kind nt) (r, m) ∧ (m = true → Good r) := by
  by_cases h : kind ≥ 3
  · obtain ⟨r, q, hev, hq⟩ := bytes_any what span hw hl ok kind nt
    exact ⟨r, q, Ev.eqn (fun K => by unfold restF; rw [if_pos h]) hev, hq⟩
  · obtain ⟨r, q, hev, hq⟩ := tail_any span hl ok false ⟨nt, kind, 0, 0, 0, 0, 0⟩
    exact ⟨r, q, Ev.eqn (fun K => by unfold restF; rw [if_neg h]) hev, hq⟩
theorem test_any (s : List UInt8) (hs : s.length ≤ 65536) : ∃ r m, Ev (fun k => testF k ⟨s.toArray⟩) (r, m) ∧ (m = true → Good r) := by
  obtain ⟨s1, nt, e0, h0⟩ : ∃ (s1 : List UInt8) (nt : Bool), strings_CutPrefix.f ⟨s.toArray⟩ ⟨([110, 111, 116, 32] : List UInt8).toArray⟩ = some (⟨s1.toArray⟩, nt) ∧ s1.length ≤ s.length := by
    rw [CutPrefix_eq]
    split
    · exact ⟨_, _, rfl, by rw [List.length_drop]; omega⟩
    · exact ⟨_, _, rfl, Nat.le_refl _⟩
  have h1 := cut_len s1 [32]
  have e1 := Cut_eq s1 [32] (by omega)
  generalize (Lib.cut s1 [32]).1 = a at h1 e1
  generalize (Lib.cut s1 [32]).2.1 = p at h1 e1
  generalize (Lib.cut s1 [32]).2.2 = ok at e1
  have h2 := cut_len p [32]
  have e2 := Cut_eq p [32] (by omega)
  by_cases c1 : a = [108, 101, 110]
  · obtain ⟨r, q, hev, hq⟩ := rest_any a p (by omega) (by omega) ok 1 nt
    refine ⟨r, q, Ev.eqn (fun K => ?_) hev, hq⟩
    unfold testF
    rw [lnot, l32, e0, Option.bind_some, e1, Option.bind_some, if_pos (by rw [mk_list]; exact c1)]
  · by_cases c2 : a = [105, 110]
    · obtain ⟨r, q, hev, hq⟩ := rest_any a p (by omega) (by omega) ok 2 nt
      refine ⟨r, q, Ev.eqn (fun K => ?_) hev, hq⟩
      unfold testF
      rw [lnot, l32, e0, Option.bind_some, e1, Option.bind_some, if_neg (by rw [mk_list]; exact c1), if_pos (by rw [mk_list]; exact c2)]
    · by_cases c3 : a = [112, 97, 115, 116]
      · obtain ⟨r, q, hev, hq⟩ := rest_any (Lib.cut p [32]).1 (Lib.cut p [32]).2.1 (by omega) (by omega) (Lib.cut p [32]).2.2 4 nt
        refine ⟨r, q, Ev.eqn (fun K => ?_) hev, hq⟩
        unfold testF
        rw [lnot, l32, e0, Option.bind_some, e1, Option.bind_some, if_neg (by rw [mk_list]; exact c1), if_neg (by rw [mk_list]; exact c2), if_pos (by rw [mk_list]; exact c3), e2, Option.bind_some]
      · obtain ⟨r, q, hev, hq⟩ := rest_any a p (by omega) (by omega) ok 3 nt
        refine ⟨r, q, Ev.eqn (fun K => ?_) hev, hq⟩
        unfold testF
        rw [lnot, l32, e0, Option.bind_some, e1, Option.bind_some, if_neg (by rw [mk_list]; exact c1), if_neg (by rw [mk_list]; exact c2), if_neg (by rw [mk_list]; exact c3)]

/-! a printed test is read back -/
theorem dg_not {c : UInt8} {n : Int} (h : ¬ IsDig c) : c ∉ dg n := fun hm => h (dg_dig c hm)
theorem n46 : ¬ IsDig 46 := by unfold IsDig; decide
theorem n47 : ¬ IsDig 47 := by unfold IsDig; decide
theorem n64 : ¬ IsDig 64 := by unfold IsDig; decide
theorem n32 : ¬ IsDig 32 := by unfold IsDig; decide
theorem n44 : ¬ IsDig 44 := by unfold IsDig; decide
theorem n45 : ¬ IsDig 45 := by unfold IsDig; decide
theorem n10 : ¬ IsDig 10 := by unfold IsDig; decide
theorem dg_size {n : Int} (h0 : 0 ≤ n) (h1 : n < 18446744073709551616) : (⟨(dg n).toArray⟩ : ByteArray).size ≤ 281474976710656 := by
  have := (dg_len h0 h1).2
  rw [mk_size]; omega
theorem cut_span (t : S50) : Lib.cut (spanL t) [46, 46] = (dg t.f5, dg t.f6, true) := by
  have : spanL t = dg t.f5 ++ ([46, 46] ++ dg t.f6) := rfl
  rw [this]
  exact cut_at (no_occ (c := 46) rfl (dg_not n46))
theorem spanL_len {t : S50} (h : Good t) : (spanL t).length ≤ 42 := by
  obtain ⟨r5, r56, r6, hk⟩ := h.ranges
  have d5 := dg_len r5 (by omega)
  have d6 := dg_len (n := t.f6) (by omega) r6
  unfold spanL
  simp only [List.length_append, List.length_cons]; omega
theorem tail_text (t : S50) (h : Good t) (x y : Int) : Ev (fun k => tailF k ⟨(spanL t).toArray⟩ true false ⟨t.f0, t.f1, t.f2, t.f3, t.f4, x, y⟩) (t, true) := by
  obtain ⟨r5, r56, r6, hk⟩ := h.ranges
  have e := Cut_eq (spanL t) [46, 46] (by have := spanL_len h; omega)
  rw [cut_span] at e
  have hm := may_ev t
  rw [h.1] at hm
  refine Ev.eqn (fun K => ?_) (Ev.bind_ hm (f := fun K => rule_may.f K t.f0 t.f1 t.f2 t.f3 t.f4 t.f5 t.f6) (g := fun _ m => some (t, m)) Ev.pure)
  unfold tailF
  rw [l46, e, Option.bind_some]
  dsimp only
  rw [if_pos ⟨dg_size r5 (by omega), dg_size (by omega) r6⟩, cntB_dg r5 (by omega), cntB_dg (by omega) r6, cntN_dg r5 (by omega), cntN_dg (by omega) r6]
  rfl
def whatL (t : S50) : List UInt8 := 117 :: (dg (8 * t.f3) ++ 64 :: (dg t.f2 ++ maskL t))
theorem size_back {s : Int} (h : s = 1 ∨ s = 2 ∨ s = 4 ∨ s = 8) : sizeV (8 * s) = s := by
  rcases h with rfl | rfl | rfl | rfl <;> decide +kernel
theorem bytes_text (t : S50) (h : Good t) (h3 : t.f1 ≥ 3) : Ev (fun k => bytesF k ⟨(whatL t).toArray⟩ ⟨(spanL t).toArray⟩ true t.f1 t.f0) (t, true) := by
  obtain ⟨r5, r56, r6, hk⟩ := h.ranges
  obtain ⟨_, hs, ha, hb, hc, hd, he⟩ := hk.resolve_left (by omega) |>.resolve_left (by omega)
  have d8 := dg_len (n := 8 * t.f3) (by omega) (by omega)
  have d2 := dg_len (n := t.f2) (by omega) (by omega)
  have d4 := dg_len (n := t.f4) (by omega) he
  have dm : (maskL t).length ≤ 21 := by unfold maskL; split <;> simp <;> omega
  have e1 := Cut_eq (whatL t) [64] (by unfold whatL; simp only [List.length_cons, List.length_append]; omega)
  have c1 : Lib.cut (whatL t) [64] = (117 :: dg (8 * t.f3), dg t.f2 ++ maskL t, true) := by
    have : whatL t = (117 :: dg (8 * t.f3)) ++ ([64] ++ (dg t.f2 ++ maskL t)) := rfl
    rw [this]
    refine cut_at (no_occ (c := 64) rfl ?_)
    simp only [List.mem_cons, not_or]
    exact ⟨by decide, dg_not n64⟩
  rw [c1] at e1
  have e2 := Cut_eq (dg t.f2 ++ maskL t) [47] (by rw [List.length_append]; omega)
  have e3 := TrimPrefix_eq (117 :: dg (8 * t.f3)) [117]
  rw [if_pos (show hasP (117 :: dg (8 * t.f3)) [117] = true from hasP_app [117] (dg (8 * t.f3)))] at e3
  have e3' : strings_TrimPrefix.f ⟨(117 :: dg (8 * t.f3)).toArray⟩ ⟨([117] : List UInt8).toArray⟩ = some ⟨(dg (8 * t.f3)).toArray⟩ := e3
  have cz := cntN_dg (n := 8 * t.f3) (by omega) (by omega)
  have bz := cntB_dg (n := 8 * t.f3) (by omega) (by omega)
  have ca := cntN_dg (n := t.f2) (by omega) (by omega)
  have ba := cntB_dg (n := t.f2) (by omega) (by omega)
  have ea : atV t.f2 = t.f2 := by unfold atV; rw [if_neg (by omega)]
  have sz := dg_size (n := 8 * t.f3) (by omega) (by omega)
  have sa := dg_size (n := t.f2) (by omega) (by omega)
  by_cases hm : t.f4 = fullV t.f3
  · have c2 : Lib.cut (dg t.f2 ++ maskL t) [47] = (dg t.f2, [], false) := by
      unfold maskL
      rw [if_pos hm, List.append_nil]
      exact cut_none (c := 47) (by simp) (dg_not n47)
    rw [c2] at e2
    refine Ev.eqn (fun K => ?_) (tail_text t h 0 0)
    unfold bytesF
    rw [l64, l47, l117, e1, Option.bind_some]
    dsimp only
    rw [e2, Option.bind_some, e3', Option.bind_some]
    dsimp only
    rw [if_pos ⟨sz, sa, by decide⟩, if_neg (by simp), cz, size_back hs, if_pos (by omega), full_eq (by omega) (by omega), Option.bind_some, bz, ca, ba, ea, ← hm]
    rfl
  · have c2 : Lib.cut (dg t.f2 ++ maskL t) [47] = (dg t.f2, dg t.f4, true) := by
      unfold maskL
      rw [if_neg hm]
      exact cut_at (A := dg t.f2) (sep := [47]) (B := dg t.f4) (no_occ (c := 47) rfl (dg_not n47))
    rw [c2] at e2
    have cm := cntN_dg (n := t.f4) (by omega) he
    have bm := cntB_dg (n := t.f4) (by omega) he
    refine Ev.eqn (fun K => ?_) (tail_text t h 0 0)
    unfold bytesF
    rw [l64, l47, l117, e1, Option.bind_some]
    dsimp only
    rw [e2, Option.bind_some, e3', Option.bind_some]
    dsimp only
    rw [if_pos ⟨sz, sa, dg_size (by omega) he⟩, if_pos rfl, cz, size_back hs, bz, ca, ba, ea, cm, bm]
    rfl
theorem whatL_no {t : S50} : (32 : UInt8) ∉ whatL t := by
  unfold whatL maskL
  simp only [List.mem_cons, List.mem_append, not_or]
  refine ⟨by decide, dg_not n32, by decide, dg_not n32, ?_⟩
  split
  · simp
  · simp only [List.mem_cons, not_or]; exact ⟨by decide, dg_not n32⟩
theorem whatL_len {t : S50} (h : Good t) (h3 : t.f1 ≥ 3) : (whatL t).length ≤ 80 := by
  obtain ⟨r5, r56, r6, hk⟩ := h.ranges
  obtain ⟨_, hs, ha, hb, hc, hd, he⟩ := hk.resolve_left (by omega) |>.resolve_left (by omega)
  have d8 := dg_len (n := 8 * t.f3) (by omega) (by omega)
  have d2 := dg_len (n := t.f2) (by omega) (by omega)
  have d4 := dg_len (n := t.f4) (by omega) he
  have dm : (maskL t).length ≤ 21 := by unfold maskL; split <;> simp <;> omega
  unfold whatL
  simp only [List.length_cons, List.length_append]; omega
theorem head_first (t : S50) (h : Good t) : ∃ c r, headL t = c :: r ∧ c ≠ 110 ∧ c ≠ 97 := by
  obtain ⟨r5, r56, r6, hk⟩ := h.ranges
  have kinds : t.f1 = 1 ∨ t.f1 = 2 ∨ t.f1 = 3 ∨ t.f1 = 4 := by omega
  unfold headL wordL
  rcases kinds with h | h | h | h <;> rw [h]
  · exact ⟨_, _, rfl, by decide, by decide⟩
  · exact ⟨_, _, rfl, by decide, by decide⟩
  · exact ⟨_, _, rfl, by decide, by decide⟩
  · exact ⟨_, _, rfl, by decide, by decide⟩
theorem test_text (t : S50) (h : Good t) : Ev (fun k => testF k ⟨(textL t).toArray⟩) (t, true) := by
  obtain ⟨r5, r56, r6, hk⟩ := h.ranges
  have kinds : t.f1 = 1 ∨ t.f1 = 2 ∨ t.f1 = 3 ∨ t.f1 = 4 := by omega
  have hsp := spanL_len h
  have e0 : strings_CutPrefix.f ⟨(textL t).toArray⟩ ⟨([110, 111, 116, 32] : List UInt8).toArray⟩ = some (⟨(headL t ++ 32 :: spanL t).toArray⟩, t.f0) := by
    rw [CutPrefix_eq]
    unfold textL notL
    cases hn : t.f0 with
    | true => rw [if_pos rfl, if_pos (hasP_app _ _)]; rfl
    | false =>
      obtain ⟨c, r, hc, hne, _⟩ := head_first t h
      have e : hasP (headL t ++ 32 :: spanL t) [110, 111, 116, 32] = false := by rw [hc]; exact hasP_head hne
      simp only [Bool.false_eq_true, if_false, List.nil_append, e]
  have rest_bytes : t.f1 ≥ 3 → Ev (fun k => restF k ⟨(whatL t).toArray⟩ ⟨(spanL t).toArray⟩ true t.f1 t.f0) (t, true) := fun h3 => Ev.eqn (fun K => by unfold restF; rw [if_pos h3]) (bytes_text t h h3)
  have rest_tail : t.f1 = 1 ∨ t.f1 = 2 → ∀ w, Ev (fun k => restF k w ⟨(spanL t).toArray⟩ true t.f1 t.f0) (t, true) := fun h12 w => by
    have hz : t.f2 = 0 ∧ t.f3 = 0 ∧ t.f4 = 0 := by
      obtain ⟨_, hk | hk⟩ := mayP h.1
      · exact ⟨hk.2.1, hk.2.2.1, hk.2.2.2.1⟩
      · omega
    have := tail_text t h 0 0
    rw [hz.1, hz.2.1, hz.2.2] at this
    exact Ev.eqn (fun K => by unfold restF; rw [if_neg (by omega)]) this
  have wl : (headL t).length ≤ 90 := by
    have := (textL_len t h).2
    have hw : (wordL t.f1).length ≤ 5 := by unfold wordL; split; simp; split; simp; split <;> simp
    unfold headL
    by_cases h3 : t.f1 ≥ 3
    · have := whatL_len h h3
      unfold whatL at this
      rw [if_pos h3, List.length_append]; omega
    · rw [if_neg h3, List.append_nil]; omega
  have e1 := Cut_eq (headL t ++ 32 :: spanL t) [32] (by rw [List.length_append, List.length_cons]; omega)
  rcases kinds with hq | hq | hq | hq
  · have hh : headL t = [108, 101, 110] := by unfold headL wordL; rw [hq]; rfl
    have c1 : Lib.cut (headL t ++ 32 :: spanL t) [32] = ([108, 101, 110], spanL t, true) := by
      rw [hh]; exact cut_at (A := [108, 101, 110]) (sep := [32]) (no_occ (c := 32) rfl (by decide))
    rw [c1] at e1
    have := rest_tail (.inl hq) ⟨([108, 101, 110] : List UInt8).toArray⟩
    rw [hq] at this
    refine Ev.eqn (fun K => ?_) this
    unfold testF
    rw [lnot, l32, e0, Option.bind_some, e1, Option.bind_some, if_pos (by rw [mk_list])]
  · have hh : headL t = [105, 110] := by unfold headL wordL; rw [hq]; rfl
    have c1 : Lib.cut (headL t ++ 32 :: spanL t) [32] = ([105, 110], spanL t, true) := by
      rw [hh]; exact cut_at (A := [105, 110]) (sep := [32]) (no_occ (c := 32) rfl (by decide))
    rw [c1] at e1
    have := rest_tail (.inr hq) ⟨([105, 110] : List UInt8).toArray⟩
    rw [hq] at this
    refine Ev.eqn (fun K => ?_) this
    unfold testF
    rw [lnot, l32, e0, Option.bind_some, e1, Option.bind_some, if_neg (by rw [mk_list]; simp), if_pos (by rw [mk_list])]
  · have hh : headL t = whatL t := by unfold headL wordL whatL; rw [hq]; rfl
    have c1 : Lib.cut (headL t ++ 32 :: spanL t) [32] = (whatL t, spanL t, true) := by
      rw [hh]; exact cut_at (A := whatL t) (sep := [32]) (no_occ (c := 32) rfl whatL_no)
    rw [c1] at e1
    have := rest_bytes (by omega)
    rw [hq] at this
    refine Ev.eqn (fun K => ?_) this
    unfold testF
    rw [lnot, l32, e0, Option.bind_some, e1, Option.bind_some, if_neg (by rw [mk_list]; unfold whatL; simp), if_neg (by rw [mk_list]; unfold whatL; simp), if_neg (by rw [mk_list]; unfold whatL; simp)]
  · have hh : headL t ++ 32 :: spanL t = [112, 97, 115, 116] ++ ([32] ++ (whatL t ++ ([32] ++ spanL t))) := by unfold headL wordL whatL; rw [hq]; simp
    have c1 : Lib.cut (headL t ++ 32 :: spanL t) [32] = ([112, 97, 115, 116], whatL t ++ ([32] ++ spanL t), true) := by
      rw [hh]; exact cut_at (no_occ (c := 32) rfl (by decide))
    have wlen := whatL_len h (by omega)
    have e2 := Cut_eq (whatL t ++ ([32] ++ spanL t)) [32] (by simp only [List.length_append, List.length_cons, List.length_nil]; omega)
    have c2 : Lib.cut (whatL t ++ ([32] ++ spanL t)) [32] = (whatL t, spanL t, true) := cut_at (no_occ (c := 32) rfl whatL_no)
    rw [c1] at e1
    rw [c2] at e2
    have := rest_bytes (by omega)
    rw [hq] at this
    refine Ev.eqn (fun K => ?_) this
    unfold testF
    rw [lnot, l32, e0, Option.bind_some, e1, Option.bind_some, if_neg (by rw [mk_list]; simp), if_neg (by rw [mk_list]; simp), if_pos (by rw [mk_list]), e2, Option.bind_some]
end Go.Proofs.YtighficpbplkhaaDoor.Pure
