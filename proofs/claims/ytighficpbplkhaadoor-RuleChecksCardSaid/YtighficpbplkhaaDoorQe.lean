/- Chapter 18, plain: the document's text of a rule, of a table. No conditions but the ones each theorem names. -/
import Derived.Test.YtighficpbplkhaaDoorQd
import Derived.Test.YtighficpbplkhaaDoorQr
import Derived.Test.YtighficpbplkhaaDoorPx26
namespace Go.Proofs.YtighficpbplkhaaDoor.Pure
open Go.RowKit Go.Proofs.YtighficpbplkhaaDoorW.PrintWords Go.Proofs.YtighficpbplkhaaDoorW.PrintLast Go.Proofs.YtighficpbplkhaaDoorW.PrintMore Go.Proofs.YtighficpbplkhaaDoor.P
set_option linter.unusedVariables false
set_option linter.unusedSimpArgs false

theorem Ev.guard {α : Type} {c : Prop} [Decidable c] (hc : c) {f : Nat → Option α} {r : α} (h : Ev f r) : Ev (fun k => if c then f k else none) r := Ev.eqn (fun K => if_pos hc) h
theorem wu {n : Int} (h0 : 0 ≤ n) (h1 : n < 18446744073709551616) : IntKind.u64.wrap n = n := by
  have : IntKind.u64.wrap n = n % 18446744073709551616 := by simp [IntKind.wrap, IntKind.bits, IntKind.signed]
  rw [this]; omega
theorem one_num (x : Int) : strOfNums [x] = ⟨([UInt8.ofNat x.toNat] : List UInt8).toArray⟩ := rfl
theorem digits_l0 : ∀ (m n : Nat) (s : List UInt8), n ≤ m → n < 18446744073709551616 → s.length + Lib.nDigits n ≤ 1000 → Ev (fun k => stockaderef18_digits.l0 k n ⟨s.toArray⟩) ⟨(Lib.decDigits n ++ s).toArray⟩ := by
  intro m
  induction m with
  | zero =>
    intro n s hm hn hs
    obtain rfl : n = 0 := by omega
    refine Ev.step_ (g := fun _ => some ⟨(Lib.decDigits 0 ++ s).toArray⟩) (fun K => ?_) Ev.pure
    rw [stockaderef18_digits.l0, if_neg (by omega)]
    simp only [Option.bind_some]
    rw [if_pos (by rw [strOfNums_size, mk_size]; simp only [List.length_cons, List.length_nil]; omega), one_num, mk_app, Lib.decDigits_one (by omega), wu (by omega) (by omega)]
    rfl
  | succ m ih =>
    intro n s hm hn hs
    by_cases c : n > 9
    · have hb : ¬ n < 10 := by omega
      have ed : Lib.decDigits n = Lib.decDigits (n / 10) ++ [UInt8.ofNat (48 + n % 10)] := by rw [Lib.decDigits, dif_neg hb]
      rw [Lib.nDigits_big hb] at hs
      have h := ih (n / 10) ([UInt8.ofNat (48 + n % 10)] ++ s) (by omega) (by omega) (by simp only [List.length_append, List.length_cons, List.length_nil]; omega)
      rw [ed, List.append_assoc]
      refine Ev.step_ (fun K => ?_) h
      rw [stockaderef18_digits.l0, if_pos (by omega)]
      have e1 : Int.tmod (n : Int) 10 = ((n % 10 : Nat) : Int) := by rw [Int.tmod_eq_emod_of_nonneg (by omega)]; omega
      have e2 : Int.tdiv (n : Int) 10 = ((n / 10 : Nat) : Int) := by rw [Int.tdiv_eq_ediv_of_nonneg (by omega)]; omega
      have e3 : ((48 + ((n % 10 : Nat) : Int)) % 256).toNat = 48 + n % 10 := by omega
      simp only [Option.bind_some, e1, e2]
      rw [if_pos (by rw [strOfNums_size, mk_size]; simp only [List.length_cons, List.length_nil]; omega), one_num, mk_app, wu (by omega) (by omega), wu (by omega) (by omega), e3]
    · refine Ev.step_ (g := fun _ => some ⟨(Lib.decDigits n ++ s).toArray⟩) (fun K => ?_) Ev.pure
      rw [stockaderef18_digits.l0, if_neg (by omega)]
      have e3 : ((48 + (n : Int)) % 256).toNat = 48 + n := by omega
      simp only [Option.bind_some]
      rw [if_pos (by rw [strOfNums_size, mk_size]; simp only [List.length_cons, List.length_nil]; omega), one_num, mk_app, Lib.decDigits_one (by omega), wu (by omega) (by omega), e3]
theorem digits_ev {n : Int} (h0 : 0 ≤ n) (h1 : n < 18446744073709551616) : Ev (fun k => stockaderef18_digits.f k n) ⟨(dg n).toArray⟩ := by
  obtain ⟨m, rfl⟩ := Int.eq_ofNat_of_zero_le h0
  have hl := (dg_len (n := (m : Int)) h0 h1).2
  unfold dg at hl ⊢
  rw [Int.toNat_natCast] at hl ⊢
  rw [Lib.decDigits_length] at hl
  have := digits_l0 m m [] (Nat.le_refl m) (by omega) (by simp only [List.length_nil]; omega)
  rw [List.append_nil] at this
  exact this
def sepL (i : Nat) : List UInt8 := if i = 0 then [] else [44, 32]
def joinL (ts : List S50) : List UInt8 := Lib.join (ts.map textL) [44, 32]
theorem join_snoc (t : S50) : ∀ (ts : List S50), joinL (ts ++ [t]) = joinL ts ++ (sepL ts.length ++ textL t) := by
  intro ts
  unfold joinL
  cases ts with
  | nil => simp [Lib.join_nil, Lib.join_one, sepL]
  | cons x r =>
    rw [List.cons_append, List.map_cons, Lib.join_cons, List.map_cons, Lib.join_cons]
    simp [Lib.joinTail, sepL, List.append_assoc]
theorem joinL_len (ts : List S50) (h8 : ts.length ≤ 8) (h : ∀ t ∈ ts, Good t) : (joinL ts).length ≤ 1900 := by
  cases ts with
  | nil => simp [joinL, Lib.join_nil]
  | cons t r =>
    have := testsL_len (t :: r) h8 h
    unfold testsL at this
    rw [if_neg (by simp)] at this
    unfold joinL; omega
section
variable (x : List UInt8) (hx : x.length ≤ 3000) (i : Int) (ts : List S55) (v : Int) (t : S50) (hg : Good t) (r : ByteArray)
include hx hg
theorem line_j6 (hr : Ev (fun k => stockaderef18_Line.l0 k ⟨(x ++ ((if t.f1 ≥ 3 then 117 :: (dg (8 * t.f3) ++ 64 :: (dg t.f2 ++ maskL t)) ++ [32] else []) ++ spanL t)).toArray⟩ (wrap64 (i + 1)) ts v) r) :
    Ev (fun k => stockaderef18_Line.j6 k ⟨x.toArray⟩ i (decide (t.f1 ≥ 3)) ts v t.f0 t.f1 t.f2 t.f3 t.f4 t.f5 t.f6) r := by
  obtain ⟨r5, r56, r6, hk⟩ := hg.ranges
  have d5 := dg_len r5 (by omega)
  have d6 := dg_len (n := t.f6) (by omega) r6
  have e32 : (⟨#[32]⟩ : ByteArray) = ⟨([32] : List UInt8).toArray⟩ := rfl
  have e46 : (⟨#[46, 46]⟩ : ByteArray) = ⟨([46, 46] : List UInt8).toArray⟩ := rfl
  have e47 : (⟨#[47]⟩ : ByteArray) = ⟨([47] : List UInt8).toArray⟩ := rfl
  have e117 : (⟨#[117]⟩ : ByteArray) = ⟨([117] : List UInt8).toArray⟩ := rfl
  have e64 : (⟨#[64]⟩ : ByteArray) = ⟨([64] : List UInt8).toArray⟩ := rfl
  by_cases h3 : t.f1 ≥ 3
  · obtain ⟨_, hs, ha, hb, hc, hd, he⟩ := hk.resolve_left (by omega) |>.resolve_left (by omega)
    have w8 : IntKind.u64.wrap (wrap64 (8 * t.f3)) = 8 * t.f3 := by rw [w64 (by omega) (by omega), wu (by omega) (by omega)]
    have w2 : IntKind.u64.wrap t.f2 = t.f2 := wu (by omega) (by omega)
    have d8 := dg_len (n := 8 * t.f3) (by omega) (by omega)
    have d2 := dg_len (n := t.f2) (by omega) (by omega)
    have d4 := dg_len (n := t.f4) (by omega) he
    rw [if_pos h3] at hr
    rw [decide_eq_true h3]
    refine Ev.step_ (fun K => by rw [stockaderef18_Line.j6, if_pos rfl, w8, w2, e117, e64, e32, e46, e47]) ?_
    refine Ev.guard (by rw [mk_size]; omega) (Ev.bind_ (digits_ev (by omega) (by omega)) ?_)
    simp only [mk_app]
    refine Ev.guard (by simp only [mk_size, List.length_append, List.length_cons, List.length_nil]; omega) (Ev.guard (by simp only [mk_size, List.length_append, List.length_cons, List.length_nil]; omega) (Ev.bind_ (digits_ev (by omega) (by omega)) ?_))
    simp only [mk_app]
    refine Ev.guard (by simp only [mk_size, List.length_append, List.length_cons, List.length_nil]; omega) (Ev.bind_ (Ev.eq_ 9 (fun k => refFull_eq (by omega) (by omega) k)) ?_)
    by_cases hm : t.f4 = fullV t.f3
    · refine Ev.eqn (fun K => if_pos hm) ?_
      refine Ev.guard (by simp only [mk_size, List.length_append, List.length_cons, List.length_nil]; omega) (Ev.bind_ (digits_ev r5 (by omega)) ?_)
      simp only [mk_app]
      refine Ev.guard (by simp only [mk_size, List.length_append, List.length_cons, List.length_nil]; omega) (Ev.guard (by simp only [mk_size, List.length_append, List.length_cons, List.length_nil]; omega) (Ev.bind_ (digits_ev (by omega) r6) ?_))
      simp only [mk_app]
      refine Ev.guard (by simp only [mk_size, List.length_append, List.length_cons, List.length_nil]; omega) ?_
      simp only [maskL, if_pos hm, spanL, List.append_nil, List.append_assoc, List.cons_append, List.nil_append] at hr ⊢
      exact hr
    · refine Ev.eqn (fun K => if_neg hm) ?_
      refine Ev.guard (by simp only [mk_size, List.length_append, List.length_cons, List.length_nil]; omega) (Ev.bind_ (digits_ev (by omega) he) ?_)
      simp only [mk_app]
      refine Ev.guard (by simp only [mk_size, List.length_append, List.length_cons, List.length_nil]; omega) (Ev.guard (by simp only [mk_size, List.length_append, List.length_cons, List.length_nil]; omega) (Ev.bind_ (digits_ev r5 (by omega)) ?_))
      simp only [mk_app]
      refine Ev.guard (by simp only [mk_size, List.length_append, List.length_cons, List.length_nil]; omega) (Ev.guard (by simp only [mk_size, List.length_append, List.length_cons, List.length_nil]; omega) (Ev.bind_ (digits_ev (by omega) r6) ?_))
      simp only [mk_app]
      refine Ev.guard (by simp only [mk_size, List.length_append, List.length_cons, List.length_nil]; omega) ?_
      simp only [maskL, if_neg hm, spanL, List.append_nil, List.append_assoc, List.cons_append, List.nil_append] at hr ⊢
      exact hr
  · rw [if_neg h3] at hr
    rw [decide_eq_false h3]
    refine Ev.step_ (fun K => by rw [stockaderef18_Line.j6, if_neg (by simp), e46]) (Ev.bind_ (digits_ev r5 (by omega)) ?_)
    simp only [mk_app]
    refine Ev.guard (by simp only [mk_size, List.length_append, List.length_cons, List.length_nil]; omega) (Ev.guard (by simp only [mk_size, List.length_append, List.length_cons, List.length_nil]; omega) (Ev.bind_ (digits_ev (by omega) r6) ?_))
    simp only [mk_app]
    refine Ev.guard (by simp only [mk_size, List.length_append, List.length_cons, List.length_nil]; omega) ?_
    simp only [spanL, List.append_nil, List.append_assoc, List.cons_append, List.nil_append] at hr ⊢
    exact hr
theorem line_j5 (hr : Ev (fun k => stockaderef18_Line.l0 k ⟨(x ++ ((if t.f1 ≥ 3 then 117 :: (dg (8 * t.f3) ++ 64 :: (dg t.f2 ++ maskL t)) ++ [32] else []) ++ spanL t)).toArray⟩ (wrap64 (i + 1)) ts v) r) :
    Ev (fun k => stockaderef18_Line.j5 k ⟨x.toArray⟩ i ts v t.f0 t.f1 t.f2 t.f3 t.f4 t.f5 t.f6) r := by
  have h6 := line_j6 x hx i ts v t hg r hr
  obtain ⟨r5, r56, r6, hk⟩ := hg.ranges
  refine Ev.step_ (fun K => ?_) h6
  rw [stockaderef18_Line.j5]
  have kinds : t.f1 = 1 ∨ t.f1 = 2 ∨ t.f1 = 3 ∨ t.f1 = 4 := by omega
  rcases kinds with h | h | h | h <;> rw [h] <;> rfl
end
theorem line_test (x : List UInt8) (hx : x.length ≤ 2000) (i : Int) (ts : List S55) (v : Int) (t : S50) (hg : Good t) (r : ByteArray) (hr : Ev (fun k => stockaderef18_Line.l0 k ⟨(x ++ textL t).toArray⟩ (wrap64 (i + 1)) ts v) r) :
    Ev (fun k => stockaderef18_Line.j1 k ⟨x.toArray⟩ i ts v t.f0 t.f1 t.f2 t.f3 t.f4 t.f5 t.f6) r := by
  obtain ⟨r5, r56, r6, hk⟩ := hg.ranges
  have hn := notL_len t.f0
  have en : (⟨#[110, 111, 116, 32]⟩ : ByteArray) = ⟨(notL true).toArray⟩ := rfl
  have e1 : (⟨#[108, 101, 110, 32]⟩ : ByteArray) = ⟨([108, 101, 110, 32] : List UInt8).toArray⟩ := rfl
  have e2 : (⟨#[105, 110, 32]⟩ : ByteArray) = ⟨([105, 110, 32] : List UInt8).toArray⟩ := rfl
  have e4 : (⟨#[112, 97, 115, 116, 32]⟩ : ByteArray) = ⟨([112, 97, 115, 116, 32] : List UInt8).toArray⟩ := rfl
  have a : Ev (fun k => stockaderef18_Line.j2 k ⟨(x ++ notL t.f0).toArray⟩ i ts v t.f0 t.f1 t.f2 t.f3 t.f4 t.f5 t.f6) r := by
    have kinds : t.f1 = 1 ∨ t.f1 = 2 ∨ t.f1 = 3 ∨ t.f1 = 4 := by omega
    have hl : (x ++ notL t.f0).length ≤ 2004 := by rw [List.length_append]; omega
    have j5 := fun (y : List UInt8) (hy : y.length ≤ 3000) hh => line_j5 y hy i ts v t hg r hh
    rcases kinds with h | h | h | h
    · refine Ev.step_ (g := fun k => stockaderef18_Line.j3 k ⟨((x ++ notL t.f0) ++ [108, 101, 110, 32]).toArray⟩ i ts v t.f0 t.f1 t.f2 t.f3 t.f4 t.f5 t.f6) (fun K => by rw [stockaderef18_Line.j2, if_pos h, if_pos (by rw [mk_size]; omega), e1, mk_app]) ?_
      refine Ev.step_ (fun K => by rw [stockaderef18_Line.j3, if_neg (by omega)]) (Ev.step_ (fun K => by rw [stockaderef18_Line.j4, if_neg (by omega)]) (j5 _ (by rw [List.length_append]; simp only [List.length_cons, List.length_nil]; omega) ?_))
      refine Ev.eqn (fun K => ?_) hr
      simp [textL, headL, wordL, h, List.append_assoc]
    · refine Ev.step_ (fun K => by rw [stockaderef18_Line.j2, if_neg (by omega)]) ?_
      refine Ev.step_ (g := fun k => stockaderef18_Line.j4 k ⟨((x ++ notL t.f0) ++ [105, 110, 32]).toArray⟩ i ts v t.f0 t.f1 t.f2 t.f3 t.f4 t.f5 t.f6) (fun K => by rw [stockaderef18_Line.j3, if_pos h, if_pos (by rw [mk_size]; omega), e2, mk_app]) ?_
      refine Ev.step_ (fun K => by rw [stockaderef18_Line.j4, if_neg (by omega)]) (j5 _ (by rw [List.length_append]; simp only [List.length_cons, List.length_nil]; omega) ?_)
      refine Ev.eqn (fun K => ?_) hr
      simp [textL, headL, wordL, h, List.append_assoc]
    · refine Ev.step_ (fun K => by rw [stockaderef18_Line.j2, if_neg (by omega)]) (Ev.step_ (fun K => by rw [stockaderef18_Line.j3, if_neg (by omega)]) (Ev.step_ (fun K => by rw [stockaderef18_Line.j4, if_neg (by omega)]) (j5 _ (by omega) ?_)))
      refine Ev.eqn (fun K => ?_) hr
      simp [textL, headL, wordL, h, List.append_assoc]
    · refine Ev.step_ (fun K => by rw [stockaderef18_Line.j2, if_neg (by omega)]) (Ev.step_ (fun K => by rw [stockaderef18_Line.j3, if_neg (by omega)]) ?_)
      refine Ev.step_ (g := fun k => stockaderef18_Line.j5 k ⟨((x ++ notL t.f0) ++ [112, 97, 115, 116, 32]).toArray⟩ i ts v t.f0 t.f1 t.f2 t.f3 t.f4 t.f5 t.f6) (fun K => by rw [stockaderef18_Line.j4, if_pos h, if_pos (by rw [mk_size]; omega), e4, mk_app]) ?_
      refine j5 _ (by rw [List.length_append]; simp only [List.length_cons, List.length_nil]; omega) ?_
      refine Ev.eqn (fun K => ?_) hr
      simp [textL, headL, wordL, h, List.append_assoc]
  refine Ev.step_ (fun K => ?_) a
  rw [stockaderef18_Line.j1]
  cases ht : t.f0 with
  | true => rw [if_pos rfl, if_pos (by rw [mk_size]; omega), en, mk_app]
  | false => rw [if_neg (by simp)]; simp [notL]
theorem refLine_l0 (ts : List S55) (h8 : ts.length ≤ 8) (h : ∀ t ∈ ts, Good (tt t)) (v : Int) (h0 : 0 ≤ v) (h1 : v < 4294967296) : ∀ (n i : Nat), i + n = ts.length → Ev (fun k => stockaderef18_Line.l0 k ⟨(joinL ((ts.take i).map tt)).toArray⟩ i ts v) ⟨(lineL (ts.map tt) v ++ [10]).toArray⟩ := by
  intro n
  have dv := dg_len (n := v) (by omega) (by omega)
  have wv : IntKind.u64.wrap v = v := wu (by omega) (by omega)
  have ea : (⟨#[32, 45, 62, 32]⟩ : ByteArray) = ⟨arrow.toArray⟩ := rfl
  have e10 : (⟨#[10]⟩ : ByteArray) = ⟨([10] : List UInt8).toArray⟩ := rfl
  have la : arrow.length = 4 := rfl
  induction n with
  | zero =>
    intro i hi
    rw [List.take_of_length_le (by omega)]
    cases ts with
    | nil =>
      refine Ev.step_ (fun K => by rw [stockaderef18_Line.l0, if_neg (by simp only [List.length_nil]; omega), if_pos (show ((([] : List S55).length : Nat) : Int) = 0 from rfl), wv, ea, e10]) ?_
      refine Ev.guard (by omega) (Ev.bind_ (digits_ev h0 (by omega)) ?_)
      have ey : (⟨#[97, 110, 121]⟩ : ByteArray) = ⟨([97, 110, 121] : List UInt8).toArray⟩ := rfl
      simp only [ey, mk_app]
      refine Ev.guard (by rw [mk_size]; omega) (Ev.guard (by rw [mk_size]; simp only [List.length_append, List.length_cons, List.length_nil, la]; omega) ?_)
      exact Ev.pure
    | cons t r =>
      have hj := joinL_len ((t :: r).map tt) (by simpa using h8) (fun y hy => by obtain ⟨z, hz, rfl⟩ := List.mem_map.1 hy; exact h z hz)
      have el : lineL ((t :: r).map tt) v = joinL ((t :: r).map tt) ++ (arrow ++ dg v) := by unfold lineL testsL joinL; rw [if_neg (by simp)]
      refine Ev.step_ (fun K => by rw [stockaderef18_Line.l0, if_neg (by omega), if_neg (by simp only [List.length_cons]; omega), wv, ea, e10]) ?_
      refine Ev.guard (by rw [mk_size]; omega) (Ev.bind_ (digits_ev h0 (by omega)) ?_)
      simp only [mk_app]
      refine Ev.guard (by simp only [mk_size, List.length_append, la]; omega) (Ev.guard (by simp only [mk_size, List.length_append, la]; omega) ?_)
      rw [el]
      simp only [List.append_assoc]
      exact Ev.pure
  | succ n ih =>
    intro i hi
    have hil : i < ts.length := by omega
    have nx := ih (i + 1) (by omega)
    have hj := joinL_len ((ts.take i).map tt) (by rw [List.length_map, List.length_take]; omega) (fun y hy => by obtain ⟨z, hz, rfl⟩ := List.mem_map.1 hy; exact h z (List.mem_of_mem_take hz))
    rw [← map_snoc tt hil, join_snoc, List.length_map, List.length_take, Nat.min_eq_left (by omega), ← List.append_assoc, ← ws (by omega)] at nx
    have hs : (sepL i).length ≤ 2 := by unfold sepL; split <;> simp
    have nt := line_test (joinL ((ts.take i).map tt) ++ sepL i) (by rw [List.length_append]; omega) i ts v (tt ts[i]) (h _ (List.getElem_mem hil)) _ nx
    refine Ev.step_ (fun K => ?_) nt
    have ec : (⟨#[44, 32]⟩ : ByteArray) = ⟨([44, 32] : List UInt8).toArray⟩ := rfl
    rw [stockaderef18_Line.l0, if_pos (by omega), if_pos (by omega), rd55 hil]
    by_cases c : i = 0
    · subst c
      rw [if_neg (by omega)]
      simp [sepL, tt]
    · rw [if_pos (by omega), if_pos (by rw [mk_size]; omega), ec, mk_app]
      simp [sepL, c, tt]
theorem refLine_ev (ts : List S55) (h8 : ts.length ≤ 8) (h : ∀ t ∈ ts, Good (tt t)) (v : Int) (h0 : 0 ≤ v) (h1 : v < 4294967296) : Ev (fun k => stockaderef18_Line.f k ts v) ⟨(lineL (ts.map tt) v ++ [10]).toArray⟩ := refLine_l0 ts h8 h v h0 h1 ts.length 0 (by omega)
theorem refPrint_l0 (l : List S46) (hl : l.length ≤ 32) (hv : ∀ r ∈ l, Valid (tr r)) : ∀ (n i : Nat), i + n = l.length → Ev (fun k => stockaderef18_Print.l0 k l ⟨(printL ((l.take i).map tr)).toArray⟩ i) (⟨(printL (l.map tr)).toArray⟩, 0) := by
  intro n
  induction n with
  | zero =>
    intro i hi
    refine Ev.step_ (g := fun _ => some (⟨(printL (l.map tr)).toArray⟩, 0)) (fun K => ?_) Ev.pure
    rw [stockaderef18_Print.l0, if_neg (by omega), List.take_of_length_le (by omega)]
  | succ n ih =>
    intro i hi
    have hil : i < l.length := by omega
    obtain ⟨h8, hg, h0, h1⟩ := hv _ (List.getElem_mem hil)
    have nx := ih (i + 1) (by omega)
    have hp := printL_len ((l.take i).map tr) (fun r hr => by obtain ⟨z, hz, rfl⟩ := List.mem_map.1 hr; exact hv z (List.mem_of_mem_take hz))
    rw [List.length_map, List.length_take] at hp
    have hll := lineL_len _ _ h8 hg h0 h1
    have ep : printL ((l.take (i + 1)).map tr) = printL ((l.take i).map tr) ++ (lineL (tr l[i]).f0 (tr l[i]).f1 ++ [10]) := by
      unfold printL
      rw [List.take_succ_eq_append_getElem hil, List.map_append, List.flatMap_append]
      simp [rowL]
    refine Ev.step_ (g := fun k => (stockaderef18_Line.f k l[i].f0 l[i].f1).bind fun s => if (⟨(printL ((l.take i).map tr)).toArray⟩ : ByteArray).size + s.size ≤ 9223372036854775807 then stockaderef18_Print.l0 k l (⟨(printL ((l.take i).map tr)).toArray⟩ ++ s) ((i + 1 : Nat) : Int) else none) (fun K => ?_) (Ev.bind_ (refLine_ev _ (by simpa [tr] using h8) (fun t ht => hg (tt t) (List.mem_map.2 ⟨t, ht, rfl⟩)) _ h0 h1) ?_)
    · rw [stockaderef18_Print.l0, if_pos (by omega), if_pos (by omega), rd46 hil, ws (by omega)]
    · refine Ev.eqn (fun K => ?_) nx
      have e : lineL (l[i].f0.map tt) (tr l[i]).f1 = lineL (tr l[i]).f0 (tr l[i]).f1 := rfl
      rw [mk_app, mk_size, mk_size, e, if_pos (by rw [List.length_append]; simp only [List.length_cons, List.length_nil]; omega), ep]
theorem refPrint_ev (l : List S46) (ht : Typed (l.map tr)) : Ev (fun k => stockaderef18_Print.f k l) (printV (l.map tr)) := by
  unfold stockaderef18_Print.f printV
  refine Ev.bind_ (refCheck_ev l) ?_
  by_cases h : (checkV (l.map tr)).2 = 0
  · obtain ⟨h32, hv⟩ := valid_of ht h
    simp only [if_pos h]
    exact refPrint_l0 l (by simpa using h32) (fun r hr => hv _ (List.mem_map.2 ⟨r, hr, rfl⟩)) l.length 0 (by omega)
  · simp only [if_neg h]
    exact Ev.pure
end Go.Proofs.YtighficpbplkhaaDoor.Pure
