/- Chapter 18, plain: the text of a test, of a rule, of a table. No conditions but the ones each theorem names. -/
import Derived.Test.YtighficpbplkhaaDoorQb
import Derived.Test.YtighficpbplkhaaDoorPx10
import Derived.Lib.ItoaMem
import Derived.Lib.Strings
namespace Go.Proofs.YtighficpbplkhaaDoor.Pure
open Go.RowKit Go.Proofs.YtighficpbplkhaaDoorW.PrintWords Go.Proofs.YtighficpbplkhaaDoorW.PrintLast Go.Proofs.YtighficpbplkhaaDoorW.PrintMore Go.Proofs.YtighficpbplkhaaDoor.P
set_option linter.unusedVariables false
set_option linter.unusedSimpArgs false

/-! texts as lists -/
theorem mk_app (a b : List UInt8) : (⟨a.toArray⟩ : ByteArray) ++ ⟨b.toArray⟩ = ⟨(a ++ b).toArray⟩ := by
  have : (ByteArray.mk a.toArray ++ ByteArray.mk b.toArray).data = (a ++ b).toArray := by simp
  cases h : (ByteArray.mk a.toArray ++ ByteArray.mk b.toArray)
  rw [h] at this
  exact congrArg ByteArray.mk this
theorem mk_size (a : List UInt8) : (⟨a.toArray⟩ : ByteArray).size = a.length := by simp [ByteArray.size]
theorem mk_list (a : List UInt8) : (⟨a.toArray⟩ : ByteArray).toList = a := by rw [Lib.toList_data]
theorem eq_mk (s : ByteArray) : s = ⟨s.data.toList.toArray⟩ := rfl
def dg (n : Int) : List UInt8 := Lib.decDigits n.toNat
theorem dg_len {n : Int} (h0 : 0 ≤ n) (h1 : n < 18446744073709551616) : 1 ≤ (dg n).length ∧ (dg n).length ≤ 20 := by
  unfold dg
  rw [Lib.decDigits_length]
  refine ⟨Lib.nDigits_pos _, ?_⟩
  refine Decidable.byContradiction fun h => ?_
  have h2 : 10 ^ 20 ≤ n.toNat := by
    have := Lib.nDigits_unique
    refine Decidable.byContradiction fun h3 => h ?_
    clear h
    have key : ∀ (k u : Nat), u < 10 ^ (k + 1) → Lib.nDigits u ≤ k + 1 := by
      intro k
      induction k with
      | zero => intro u hu; rw [Lib.nDigits_small (by simpa using hu)]; omega
      | succ k ih =>
        intro u hu
        by_cases hs : u < 10
        · rw [Lib.nDigits_small hs]; omega
        · rw [Lib.nDigits_big hs]
          have := ih (u / 10) (by rw [Nat.pow_succ] at hu; omega)
          omega
    exact key 19 n.toNat (by omega)
  omega
theorem format_eq {n : Int} (h0 : 0 ≤ n) (h1 : n < 18446744073709551616) : rule_digits.f n = some ⟨(dg n).toArray⟩ := by
  unfold rule_digits.f strconv_FormatUint_65.f
  rw [if_pos ⟨rfl, h0, h1⟩]; rfl
theorem itoa_eq {n : Int} (h0 : 0 ≤ n) (h1 : n ≤ 9223372036854775807) : strconv_Itoa_63.f n = some ⟨(dg n).toArray⟩ := by
  unfold strconv_Itoa_63.f dg
  rw [if_pos ⟨by omega, h1⟩]
  unfold Lib.itoa
  rw [if_neg (by omega)]

/-! a test -/
def wordL (k : Int) : List UInt8 := if k = 1 then [108, 101, 110] else if k = 2 then [105, 110] else if k = 3 then [] else [112, 97, 115, 116, 32]
theorem wordOf_eq (k : Int) : wordOf k = ⟨(wordL k).toArray⟩ := by
  unfold wordOf wordL
  split
  · rfl
  · split
    · rfl
    · split <;> rfl
def maskL (t : S50) : List UInt8 := if t.f4 = fullV t.f3 then [] else 47 :: dg t.f4
def headL (t : S50) : List UInt8 := wordL t.f1 ++ (if t.f1 ≥ 3 then 117 :: (dg (8 * t.f3) ++ 64 :: (dg t.f2 ++ maskL t)) else [])
def notL (b : Bool) : List UInt8 := if b = true then [110, 111, 116, 32] else []
def spanL (t : S50) : List UInt8 := dg t.f5 ++ 46 :: 46 :: dg t.f6
def textL (t : S50) : List UInt8 := notL t.f0 ++ (headL t ++ 32 :: spanL t)
/-- A test that may be (its lower bound is no less than 0). -/
def Good (t : S50) : Prop := mayB t = true ∧ 0 ≤ t.f5
theorem full_le {s : Int} (h0 : 1 ≤ s) (h1 : s ≤ 8) : 1 ≤ fullV s ∧ fullV s ≤ 18446744073709551615 := by
  have : s = 1 ∨ s = 2 ∨ s = 3 ∨ s = 4 ∨ s = 5 ∨ s = 6 ∨ s = 7 ∨ s = 8 := by omega
  rcases this with rfl | rfl | rfl | rfl | rfl | rfl | rfl | rfl <;> decide +kernel
theorem Good.ranges {t : S50} (h : Good t) : 0 ≤ t.f5 ∧ t.f5 ≤ t.f6 ∧ t.f6 < 18446744073709551616 ∧ (t.f1 = 1 ∨ t.f1 = 2 ∨ (t.f1 = 3 ∨ t.f1 = 4) ∧ (t.f3 = 1 ∨ t.f3 = 2 ∨ t.f3 = 4 ∨ t.f3 = 8) ∧ 0 ≤ t.f2 ∧ t.f2 ≤ 255 ∧ 1 ≤ t.f4 ∧ t.f4 ≤ fullV t.f3 ∧ t.f4 < 18446744073709551616) := by
  obtain ⟨hm, h5⟩ := h
  obtain ⟨h56, hk | ⟨h3, hs, ha, hb, hc, hd, he⟩⟩ := mayP hm
  · exact ⟨h5, h56, by omega, by omega⟩
  · have := full_le (s := t.f3) (by omega) (by omega)
    exact ⟨h5, h56, by omega, .inr (.inr ⟨h3, hs, ha, hb, hc, hd, by omega⟩)⟩
theorem notL_len (b : Bool) : (notL b).length ≤ 4 := by cases b <;> simp [notL]
theorem text_j0 (k : Nat) (t : S50) (h : Good t) (x : List UInt8) (hx : x.length ≤ 4) : rule_text.j0 (k + 1) ⟨x.toArray⟩ t.f0 t.f1 t.f2 t.f3 t.f4 t.f5 t.f6 = some ⟨(x ++ (headL t ++ 32 :: spanL t)).toArray⟩ := by
  obtain ⟨r5, r56, r6, hk⟩ := h.ranges
  have d5 := dg_len r5 (by omega)
  have d6 := dg_len (n := t.f6) (by omega) r6
  rw [rule_text.j0]
  simp only [rule_of.f, Option.bind_some, wordOf_eq]
  have kinds : t.f1 < 3 ∨ (t.f1 = 3 ∨ t.f1 = 4) := by omega
  rcases kinds with k12 | k34
  · have hw : (wordL t.f1).length ≤ 5 := by unfold wordL; split; simp; split; simp; split <;> simp
    have hn : ¬ t.f1 ≥ 3 := by omega
    rw [if_pos (by simp only [mk_size]; omega), if_neg hn, mk_app, if_pos (by simp only [mk_size, List.length_append]; omega), format_eq r5 (by omega)]
    have e32 : (⟨#[32]⟩ : ByteArray) = ⟨([32] : List UInt8).toArray⟩ := rfl
    have e46 : (⟨#[46, 46]⟩ : ByteArray) = ⟨([46, 46] : List UInt8).toArray⟩ := rfl
    simp only [Option.bind_some, e32, e46, mk_app]
    rw [if_pos (by simp only [mk_size, List.length_append, List.length_cons, List.length_nil]; omega), if_pos (by simp only [mk_size, List.length_append, List.length_cons, List.length_nil]; omega), format_eq (by omega) r6]
    simp only [Option.bind_some, mk_app]
    rw [if_pos (by simp only [mk_size, List.length_append, List.length_cons, List.length_nil]; omega)]
    simp only [headL, if_neg hn, spanL, List.append_nil, List.append_assoc, List.cons_append, List.nil_append]
  · obtain ⟨_, hs, ha, hb, hc, hd, he⟩ := hk.resolve_left (by omega) |>.resolve_left (by omega)
    have hw : (wordL t.f1).length ≤ 5 := by unfold wordL; split; simp; split; simp; split <;> simp
    have h3 : t.f1 ≥ 3 := by omega
    have w8 : wrap64 (8 * t.f3) = 8 * t.f3 := w64 (by omega) (by omega)
    have d8 := dg_len (n := 8 * t.f3) (by omega) (by omega)
    have d2 := dg_len (n := t.f2) (by omega) (by omega)
    have d4 := dg_len (n := t.f4) (by omega) he
    have e32 : (⟨#[32]⟩ : ByteArray) = ⟨([32] : List UInt8).toArray⟩ := rfl
    have e46 : (⟨#[46, 46]⟩ : ByteArray) = ⟨([46, 46] : List UInt8).toArray⟩ := rfl
    have e47 : (⟨#[47]⟩ : ByteArray) = ⟨([47] : List UInt8).toArray⟩ := rfl
    have e117 : (⟨#[117]⟩ : ByteArray) = ⟨([117] : List UInt8).toArray⟩ := rfl
    have e64 : (⟨#[64]⟩ : ByteArray) = ⟨([64] : List UInt8).toArray⟩ := rfl
    rw [if_pos (by simp only [mk_size]; omega), if_pos h3, w8, itoa_eq (by omega) (by omega)]
    simp only [Option.bind_some, e117, e64, mk_app]
    rw [if_pos (by simp only [mk_size]; omega), if_pos (by simp only [mk_size, List.length_append, List.length_cons, List.length_nil]; omega), itoa_eq (by omega) (by omega)]
    simp only [Option.bind_some, mk_app]
    rw [if_pos (by simp only [mk_size, List.length_append, List.length_cons, List.length_nil]; omega), if_pos (by simp only [mk_size, List.length_append, List.length_cons, List.length_nil]; omega), full_eq (by omega) (by omega)]
    simp only [Option.bind_some]
    by_cases hm : t.f4 = fullV t.f3
    · rw [if_pos hm, if_pos (by simp only [mk_size, List.length_append, List.length_cons, List.length_nil]; omega), format_eq r5 (by omega)]
      simp only [Option.bind_some, e32, e46, mk_app]
      rw [if_pos (by simp only [mk_size, List.length_append, List.length_cons, List.length_nil]; omega), if_pos (by simp only [mk_size, List.length_append, List.length_cons, List.length_nil]; omega), format_eq (by omega) r6]
      simp only [Option.bind_some, mk_app]
      rw [if_pos (by simp only [mk_size, List.length_append, List.length_cons, List.length_nil]; omega)]
      simp only [headL, maskL, if_pos h3, if_pos hm, spanL, List.append_nil, List.append_assoc, List.cons_append, List.nil_append]
    · rw [if_neg hm, format_eq (by omega) he]
      simp only [Option.bind_some, e32, e46, e47, mk_app]
      rw [if_pos (by simp only [mk_size]; omega), if_pos (by simp only [mk_size, List.length_append, List.length_cons, List.length_nil]; omega), if_pos (by simp only [mk_size, List.length_append, List.length_cons, List.length_nil]; omega), format_eq r5 (by omega)]
      simp only [Option.bind_some, mk_app]
      rw [if_pos (by simp only [mk_size, List.length_append, List.length_cons, List.length_nil]; omega), if_pos (by simp only [mk_size, List.length_append, List.length_cons, List.length_nil]; omega), format_eq (by omega) r6]
      simp only [Option.bind_some, mk_app]
      rw [if_pos (by simp only [mk_size, List.length_append, List.length_cons, List.length_nil]; omega)]
      simp only [headL, maskL, if_pos h3, if_neg hm, spanL, List.append_nil, List.append_assoc, List.cons_append, List.nil_append]
theorem text_eq (k : Nat) (t : S50) (h : Good t) : rule_text.f (k + 1) t.f0 t.f1 t.f2 t.f3 t.f4 t.f5 t.f6 = some ⟨(textL t).toArray⟩ := by
  unfold rule_text.f
  cases hn : t.f0 with
  | true =>
    rw [if_pos rfl]
    have := text_j0 k t h [110, 111, 116, 32] (by simp)
    rw [hn] at this
    rw [this]
    unfold textL notL
    rw [hn]; rfl
  | false =>
    rw [if_neg (by simp)]
    have := text_j0 k t h [] (by simp)
    rw [hn] at this
    rw [this]
    unfold textL notL
    rw [hn]; rfl
theorem text_ev (t : S50) (h : Good t) : Ev (fun k => rule_text.f k t.f0 t.f1 t.f2 t.f3 t.f4 t.f5 t.f6) ⟨(textL t).toArray⟩ := Ev.eq_ 1 (fun k => text_eq k t h)
theorem textL_len (t : S50) (h : Good t) : 4 ≤ (textL t).length ∧ (textL t).length ≤ 200 := by
  obtain ⟨r5, r56, r6, hk⟩ := h.ranges
  have d5 := dg_len r5 (by omega)
  have d6 := dg_len (n := t.f6) (by omega) r6
  have hn := notL_len t.f0
  have hw : (wordL t.f1).length ≤ 5 := by unfold wordL; split; simp; split; simp; split <;> simp
  have hh : (headL t).length ≤ 80 := by
    unfold headL
    by_cases h3 : t.f1 ≥ 3
    · obtain ⟨_, hs, ha, hb, hc, hd, he⟩ := hk.resolve_left (by omega) |>.resolve_left (by omega)
      have d8 := dg_len (n := 8 * t.f3) (by omega) (by omega)
      have d2 := dg_len (n := t.f2) (by omega) (by omega)
      have d4 := dg_len (n := t.f4) (by omega) he
      have dm : (maskL t).length ≤ 21 := by unfold maskL; split <;> simp <;> omega
      rw [if_pos h3]
      simp only [List.length_append, List.length_cons]; omega
    · rw [if_neg h3]; simp; omega
  unfold textL spanL
  simp only [List.length_append, List.length_cons]
  omega

/-! a rule -/
def testsL (ts : List S50) : List UInt8 := if ts = [] then [97, 110, 121] else Lib.join (ts.map textL) [44, 32]
def arrow : List UInt8 := [32, 45, 62, 32]
def lineL (ts : List S50) (v : Int) : List UInt8 := testsL ts ++ (arrow ++ dg v)
theorem tail_len : ∀ (r : List S50), (∀ t ∈ r, Good t) → (Lib.joinTail [44, 32] (r.map textL)).length ≤ 202 * r.length := by
  intro r
  induction r with
  | nil => intro _; simp [Lib.joinTail]
  | cons t r ih =>
    intro h
    have h1 := (textL_len t (h t List.mem_cons_self)).2
    have h2 := ih (fun x hx => h x (List.mem_cons_of_mem _ hx))
    unfold Lib.joinTail at h2 ⊢
    simp only [List.map_cons, List.flatten_cons, List.length_append, List.length_cons, List.length_nil] at h2 ⊢
    omega
theorem testsL_len (ts : List S50) (h8 : ts.length ≤ 8) (h : ∀ t ∈ ts, Good t) : (testsL ts).length ≤ 1800 := by
  unfold testsL
  split
  · simp
  · cases ts with
    | nil => simp [Lib.join_nil]
    | cons t r =>
      rw [List.map_cons, Lib.join_cons, List.length_append]
      have h1 := (textL_len t (h t List.mem_cons_self)).2
      have h2 := tail_len r (fun x hx => h x (List.mem_cons_of_mem _ hx))
      simp only [List.length_cons] at h8
      omega
theorem lineL_len (ts : List S50) (v : Int) (h8 : ts.length ≤ 8) (h : ∀ t ∈ ts, Good t) (h0 : 0 ≤ v) (h1 : v < 4294967296) : (lineL ts v).length ≤ 1900 := by
  have := testsL_len ts h8 h
  have dv := dg_len (n := v) (by omega) (by omega)
  unfold lineL arrow
  simp only [List.length_append, List.length_cons, List.length_nil]
  omega
theorem line_l0 (ts : List S50) (h8 : ts.length ≤ 8) (h : ∀ t ∈ ts, Good t) (v : Int) (h0 : 0 ≤ v) (h1 : v < 4294967296) : ∀ (n i : Nat), i + n = ts.length → Ev (fun k => rule_line.l0 k ((ts.take i).map fun t => (⟨(textL t).toArray⟩ : ByteArray)) ts ts.length i ts v) ⟨(lineL ts v).toArray⟩ := by
  intro n
  have hl := testsL_len ts h8 h
  have dv := dg_len (n := v) (by omega) (by omega)
  have wv : IntKind.u64.wrap v = v := by
    have : IntKind.u64.wrap v = v % 18446744073709551616 := by simp [IntKind.wrap, IntKind.bits, IntKind.signed]
    rw [this]; omega
  have ea : (⟨#[32, 45, 62, 32]⟩ : ByteArray) = ⟨arrow.toArray⟩ := rfl
  have es : (⟨#[44, 32]⟩ : ByteArray).data.toList = [44, 32] := rfl
  induction n with
  | zero =>
    intro i hi
    refine Ev.step_ (g := fun _ => some ⟨(lineL ts v).toArray⟩) (fun K => ?_) Ev.pure
    rw [rule_line.l0, if_neg (by omega), List.take_of_length_le (by omega), List.length_map, wv]
    cases ts with
    | nil =>
      rw [if_pos (show ((([] : List S50).length : Nat) : Int) = 0 from rfl), if_pos (by simp), format_eq h0 (by omega)]
      have e : strings_Join.f ([⟨#[97, 110, 121]⟩] : List ByteArray) ⟨#[44, 32]⟩ = some ⟨([97, 110, 121] : List UInt8).toArray⟩ := by
        unfold strings_Join.f
        simp only [List.map_cons, List.map_nil, Lib.join_one]
        rw [if_pos ⟨by simp, by simp⟩]
      simp only [List.map_nil, List.nil_append, e, Option.bind_some, ea, mk_app]
      rw [if_pos (by simp only [mk_size, List.length_cons, List.length_nil]; omega), if_pos (by unfold arrow; simp only [mk_size, List.length_append, List.length_cons, List.length_nil]; omega)]
      unfold lineL testsL
      rw [if_pos rfl, List.append_assoc]
    | cons t r =>
      have en : ¬ (((t :: r).length : Nat) : Int) = 0 := by simp only [List.length_cons]; omega
      have e : strings_Join.f ((t :: r).map fun t => (⟨(textL t).toArray⟩ : ByteArray)) ⟨#[44, 32]⟩ = some ⟨(testsL (t :: r)).toArray⟩ := by
        unfold strings_Join.f
        have em : (((t :: r).map fun t => (⟨(textL t).toArray⟩ : ByteArray)).map (·.data.toList)) = (t :: r).map textL := by
          rw [List.map_map]; rfl
        have et : testsL (t :: r) = Lib.join ((t :: r).map textL) [44, 32] := by unfold testsL; rw [if_neg (by simp)]
        rw [em, es, ← et, if_pos ⟨by rw [List.length_map]; omega, by omega⟩]
      rw [if_neg en, e, format_eq h0 (by omega)]
      simp only [Option.bind_some, ea, mk_app]
      rw [if_pos (by simp only [mk_size]; omega), if_pos (by unfold arrow; simp only [mk_size, List.length_append, List.length_cons, List.length_nil]; omega)]
      unfold lineL
      rw [List.append_assoc]
  | succ n ih =>
    intro i hi
    have hil : i < ts.length := by omega
    have nx := ih (i + 1) (by omega)
    refine Ev.step_ (g := fun k => (rule_text.f k ts[i].f0 ts[i].f1 ts[i].f2 ts[i].f3 ts[i].f4 ts[i].f5 ts[i].f6).bind fun s => rule_line.l0 k (((ts.take i).map fun t => (⟨(textL t).toArray⟩ : ByteArray)) ++ [s]) ts ts.length ((i + 1 : Nat) : Int) ts v) (fun K => ?_) (Ev.bind_ (text_ev ts[i] (h _ (List.getElem_mem hil))) ?_)
    · rw [rule_line.l0, if_pos (by omega), if_pos (by omega), if_pos (by omega), rd50 hil, ws (by omega)]
      have hlt : ((ts.take i).map fun t => (⟨(textL t).toArray⟩ : ByteArray)).length < 8796093022208 := by rw [List.length_map, List.length_take]; omega
      simp only [if_pos hlt]
    · have := map_snoc (fun t => (⟨(textL t).toArray⟩ : ByteArray)) hil
      rw [this]; exact nx
theorem line_ev (ts : List S50) (h8 : ts.length ≤ 8) (h : ∀ t ∈ ts, Good t) (v : Int) (h0 : 0 ≤ v) (h1 : v < 4294967296) : Ev (fun k => rule_line.f k ts v) ⟨(lineL ts v).toArray⟩ := line_l0 ts h8 h v h0 h1 ts.length 0 (by omega)

/-! a table -/
def Valid (r : S53) : Prop := r.f0.length ≤ 8 ∧ (∀ t ∈ r.f0, Good t) ∧ 0 ≤ r.f1 ∧ r.f1 < 4294967296
def rowL (r : S53) : List UInt8 := lineL r.f0 r.f1 ++ [10]
def printL (l : List S53) : List UInt8 := l.flatMap rowL
theorem printL_len : ∀ (l : List S53), (∀ r ∈ l, Valid r) → (printL l).length ≤ 1901 * l.length := by
  intro l
  induction l with
  | nil => intro _; simp [printL]
  | cons r l ih =>
    intro h
    obtain ⟨h8, hg, h0, h1⟩ := h r List.mem_cons_self
    have a := lineL_len r.f0 r.f1 h8 hg h0 h1
    have b := ih (fun x hx => h x (List.mem_cons_of_mem _ hx))
    unfold printL rowL at b ⊢
    simp only [List.flatMap_cons, List.length_append, List.length_cons, List.length_nil] at b ⊢
    omega
theorem print_l0 (l : List S53) (hl : l.length ≤ 32) (hv : ∀ r ∈ l, Valid r) : ∀ (n i : Nat), i + n = l.length → Ev (fun k => rule_Print.l0 k ⟨(printL (l.take i)).toArray⟩ l l.length i) (⟨(printL l).toArray⟩, 0) := by
  intro n
  induction n with
  | zero =>
    intro i hi
    refine Ev.step_ (g := fun _ => some (⟨(printL l).toArray⟩, 0)) (fun K => ?_) Ev.pure
    rw [rule_Print.l0, if_neg (by omega), List.take_of_length_le (by omega)]
  | succ n ih =>
    intro i hi
    have hil : i < l.length := by omega
    obtain ⟨h8, hg, h0, h1⟩ := hv _ (List.getElem_mem hil)
    have nx := ih (i + 1) (by omega)
    have hp := printL_len (l.take i) (fun r hr => hv r (List.mem_of_mem_take hr))
    rw [List.length_take] at hp
    have hll := lineL_len _ _ h8 hg h0 h1
    have ep : printL (l.take (i + 1)) = printL (l.take i) ++ (lineL l[i].f0 l[i].f1 ++ [10]) := by
      unfold printL
      rw [List.take_succ_eq_append_getElem hil, List.flatMap_append]
      simp [rowL]
    have e10 : (⟨#[10]⟩ : ByteArray) = ⟨([10] : List UInt8).toArray⟩ := rfl
    refine Ev.step_ (g := fun k => (rule_line.f k l[i].f0 l[i].f1).bind fun s => if (printL (l.take i)).length + s.size ≤ 140737488355328 then if ((⟨(printL (l.take i)).toArray⟩ : ByteArray) ++ s).size + 1 ≤ 140737488355328 then rule_Print.l0 k ((⟨(printL (l.take i)).toArray⟩ ++ s) ++ ⟨#[10]⟩) l l.length ((i + 1 : Nat) : Int) else none else none) (fun K => ?_) (Ev.bind_ (line_ev _ h8 hg _ h0 h1) ?_)
    · rw [rule_Print.l0, if_pos (by omega), if_pos (by omega), if_pos (by omega), rd53 hil, ws (by omega), mk_size]
    · refine Ev.eqn (fun K => ?_) nx
      rw [e10, mk_app, mk_app, mk_size, mk_size, if_pos (by omega), if_pos (by rw [List.length_append]; omega), ep, List.append_assoc]
/-- Verdicts and lower bounds are in their types' ranges. -/
def Typed (l : List S53) : Prop := ∀ r ∈ l, (0 ≤ r.f1 ∧ r.f1 < 4294967296) ∧ ∀ t ∈ r.f0, 0 ≤ t.f5
theorem valid_of {l : List S53} (ht : Typed l) (h : (checkV l).2 = 0) : l.length ≤ 32 ∧ ∀ r ∈ l, Valid r := by
  obtain ⟨h32, hr⟩ := check_ok h
  exact ⟨h32, fun r hrl => ⟨(hr r hrl).1, fun t htr => ⟨(hr r hrl).2 t htr, (ht r hrl).2 t htr⟩, (ht r hrl).1.1, (ht r hrl).1.2⟩⟩
/-- What a table's types say. -/
theorem okL.typed {l : List S46} (h : okL l) : Typed (l.map tr) := fun r hr => by
  obtain ⟨z, hz, rfl⟩ := List.mem_map.1 hr
  obtain ⟨_, ht, h0, h1⟩ := h.2 z hz
  refine ⟨⟨h0, by show z.f1 < _; omega⟩, fun t htr => ?_⟩
  obtain ⟨y, hy, rfl⟩ := List.mem_map.1 htr
  exact (ht y hy).2.2.2.2.1.1
def printV (l : List S53) : ByteArray × Int := if (checkV l).2 = 0 then (⟨(printL l).toArray⟩, 0) else (⟨#[]⟩, (checkV l).2)
theorem print_ev (l : List S53) (ht : Typed l) : Ev (fun k => rule_Print.f k l) (printV l) := by
  unfold rule_Print.f printV
  refine Ev.bind_ (check_ev l) ?_
  by_cases h : (checkV l).2 = 0
  · obtain ⟨h32, hv⟩ := valid_of ht h
    simp only [if_pos h]
    exact print_l0 l h32 hv l.length 0 (by omega)
  · simp only [if_neg h]
    exact Ev.pure
end Go.Proofs.YtighficpbplkhaaDoor.Pure
