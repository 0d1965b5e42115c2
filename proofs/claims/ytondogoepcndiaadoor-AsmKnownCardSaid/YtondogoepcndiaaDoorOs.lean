/- Rows: an argument that is a slice of structs of whole numbers is read as a list; each theorem names its conditions. -/
import Derived.Deep.Slices
import Derived.Deep.Fields
import Derived.ChangeSame
import Derived.SizedLaws
import Derived.OpenShut
import Derived.Lib.SmallJoins
import Derived.Test.YtondogoepcndiaaDoorPx0
namespace Go.Proofs.YtondogoepcndiaaDoor.Opening
open Go.ChangeShapes Go.WideShapes Go.ChangeAt Go.RowKit Go.Deep Go.Joins Go.Proofs.YtondogoepcndiaaDoorW.PrintWords Go.Proofs.YtondogoepcndiaaDoor.P
set_option linter.unusedVariables false
section
variable {H : Type} {enc : TypeId × Value → H} {P : Program} {w : World} {base : Nat} {spare : Nat → Bool} {held : Bool}
theorem open_rows {α : Type} [Inhabited α] (K : Kd α) (R : α → Prop) {t e : TypeId} {fs : Array Field} {fuel : Nat} {cs : List Value} {x : DataW H × List MemPlace} (ht : P.underlying t = some (.slice e)) (he : P.underlying e = some (.struct fs))
    (hone : oneCellFields P fs = true) (hC : P.cellsOf e = fs.size) (hK : K.sz = fs.size) (h : DataW.trod enc P w base spare held fuel t cs = some x)
    (one : ∀ D : Addr, (∀ (j : Nat) (f : Field), fs[j]? = some f → ∃ (v : Value) (y : DataW H × List MemPlace) (n : Nat), w.cell? (D.add j) = some v ∧ DataW.trod enc P w base spare held n f.type [v] = some y) → ∃ z : α, R z ∧ ∃ c, K.K w z c ∧ ∀ i u, c[i]? = some u → w.cell? (D.add i) = some u) :
    ∃ (A : Option Addr) (l : List α) (c : Nat), cs = [.slice A l.length c] ∧ K.C w A l.length l ∧ l.length ≤ c ∧ (∀ z ∈ l, R z) ∧ (x.1 = .nil ∧ l = [] ∨ ∃ ds rs, x.1 = .slice ds rs ∧ l.length ≤ ds.length + rs.length) := by
  rcases open_slice ht h with ⟨rfl, rfl⟩ | ⟨a, len, cap, m, n, D, Pl, rfl, hb, hl, hm, hmm, rfl, hi⟩
  · exact ⟨none, [], 0, rfl, ⟨rfl, by simp, fun h => absurd h (by simp)⟩, by simp, by simp, .inl ⟨rfl, rfl⟩⟩
  · have hlm : len ≤ m := by rw [hmm]; split <;> omega
    obtain ⟨V, hV⟩ := choose_lt (α := α) (n := len) (p := fun i z => R z ∧ ∃ c, K.K w z c ∧ ∀ i_1 u, c[i_1]? = some u → w.cell? (a.add (i * fs.size + i_1)) = some u) (fun i hil => by
      obtain ⟨cs', hc, ht'⟩ := hi i (by omega)
      rw [hC] at hc
      obtain ⟨ys, n', hn', hy, hlen, hyl, hf⟩ := DataW.trod_struct he ht'
      obtain ⟨_, hcl, hat⟩ := World.cells?_some hc
      obtain ⟨z, hz, c, hc1, hc2⟩ := one (a.add (i * fs.size)) (fun j f hj => by
        obtain ⟨ho, hk⟩ := hone_of hone j f hj
        have hjl : j < fs.size := (Array.getElem?_eq_some_iff.1 hj).1
        have hcell := hat j hjl
        have hv : cs'[j]? = some (cs'[j]'(by omega)) := List.getElem?_eq_getElem (by omega)
        have h1 := hf j f hj
        rw [ho, hk] at h1
        have hone' : (cs'.drop j).take 1 = [cs'[j]'(by omega)] := by
          rw [List.drop_eq_getElem_cons (by omega)]
          rfl
        rw [hone'] at h1
        have hys : ys[j]? = some (ys[j]'(by omega)) := List.getElem?_eq_getElem (by omega)
        exact ⟨_, _, n', hcell.trans hv, h1.trans hys⟩)
      exact ⟨z, hz, c, hc1, fun k u hu => by rw [← Go.Deep.add_add]; exact hc2 k u hu⟩)
    have hL : ((List.range len).map V).length = len := by simp
    refine ⟨some a, (List.range len).map V, cap, by rw [hL], ⟨rfl, by rw [hL]; exact Nat.le_trans hl (Nat.le_trans hm (by decide)), fun _ => ⟨a, rfl, fun j p hj => ?_⟩⟩, by rw [hL]; exact hl, ?_, .inr ⟨_, _, rfl, by simp⟩⟩
    · obtain ⟨hj1, hj2⟩ := List.getElem?_eq_some_iff.1 hj
      have hjl : j < len := by simpa using hj1
      obtain rfl : V j = p := by simpa using hj2
      obtain ⟨_, c, hc1, hc2⟩ := hV j hjl
      exact ⟨c, K.K_len hc1, hc1, fun i u hu => by rw [hK]; exact hc2 i u hu⟩
    · intro z hz
      obtain ⟨i, hi', rfl⟩ := List.mem_map.1 hz
      exact (hV i (List.mem_range.1 hi')).1
theorem sized_parts {ts : List TypeId} {ds : List (DataW H)} (h : (DataW.weightsEach P ts ds).all (· ≤ reachBytes) = true) {j : Nat} {t : TypeId} {fs : Array Field} {parts : List (DataW H)} (ht : ts[j]? = some t) (hd : ds[j]? = some (.agg parts)) (hu : P.underlying t = some (.struct fs)) :
    (DataW.weightsEach P (fs.toList.map (·.type)) parts).all (· ≤ reachBytes) = true :=
  List.all_eq_true.2 fun x hx => List.all_eq_true.1 h x (DataW.weights_mem_each ht hd x (by simpa [DataW.weights, hu] using hx))
theorem sized_list {α : Type} {ts : List TypeId} {ds : List (DataW H)} {d : DataW H} {B : Nat} (h : (DataW.weightsEach P ts ds).all (· ≤ reachBytes) = true) {j : Nat} {t e : TypeId} (ht : ts[j]? = some t) (hd : ds[j]? = some d) (hu : P.underlying t = some (.slice e)) (hB : P.bytesOf e = B) {l : List α}
    (hn : d = .nil ∧ l = [] ∨ ∃ es rs, d = .slice es rs ∧ l.length ≤ es.length + rs.length) : l.length * B ≤ 140737488351232 := by
  rcases hn with ⟨_, rfl⟩ | ⟨es, rs, rfl, hl⟩
  · simp
  · have z := sized_slice h ht hd hu
    rw [hB] at z
    exact Nat.le_trans (Nat.mul_le_mul_right _ hl) z
end
instance : Inhabited S37 := ⟨z37⟩
/-- The ranges of the fields. -/
def ok37 (x : S37) : Prop := (Lit.int .u8 x.f0).wf = true ∧ (Lit.int .u8 x.f1).wf = true ∧ (Lit.int .u8 x.f2).wf = true ∧ (Lit.int .i16 x.f3).wf = true ∧ (Lit.int .i32 x.f4).wf = true
theorem ok37_open {x : S37} (h : ok37 x) : (0 ≤ x.f0 ∧ x.f0 ≤ 255) ∧ (0 ≤ x.f1 ∧ x.f1 ≤ 255) ∧ (0 ≤ x.f2 ∧ x.f2 ≤ 255) ∧ (-32768 ≤ x.f3 ∧ x.f3 ≤ 32767) ∧ (-2147483648 ≤ x.f4 ∧ x.f4 ≤ 2147483647) := by
  obtain ⟨h0, h1, h2, h3, h4⟩ := h
  exact ⟨bounds_u8 h0, bounds_u8 h1, bounds_u8 h2, bounds_i16 h3, bounds_i32 h4⟩
theorem open37 {H : Type} {enc : TypeId × Value → H} {w : World} {base : Nat} {spare : Nat → Bool} {held : Bool} {t : TypeId} {fuel : Nat} {v : Value} {x : DataW H × List MemPlace} (ht : Tryd.prog.underlying t = some (.slice 37)) (h : DataW.trod enc Tryd.prog w base spare held fuel t [v] = some x) :
    ∃ (A : Option Addr) (l : List S37) (c : Nat), v = .slice A l.length c ∧ Kd.C k37 w A l.length l ∧ l.length ≤ c ∧ (∀ z ∈ l, ok37 z) ∧ (x.1 = .nil ∧ l = [] ∨ ∃ ds rs, x.1 = .slice ds rs ∧ l.length ≤ ds.length + rs.length) := by
  obtain ⟨A, l, c, e, h2⟩ := open_rows k37 ok37 ht Tryd.underlying37 (by kernel_rfl) (by kernel_rfl) (by kernel_rfl) h (fun D hf => by
    obtain ⟨v0, y0, n0, c0, t0⟩ := hf 0 _ rfl
    obtain ⟨a0, e0, _, w0⟩ := DataW.trod_int (k := .u8) (by kernel_rfl) t0
    obtain rfl : v0 = _ := by simpa using e0
    obtain ⟨v1, y1, n1, c1, t1⟩ := hf 1 _ rfl
    obtain ⟨a1, e1, _, w1⟩ := DataW.trod_int (k := .u8) (by kernel_rfl) t1
    obtain rfl : v1 = _ := by simpa using e1
    obtain ⟨v2, y2, n2, c2, t2⟩ := hf 2 _ rfl
    obtain ⟨a2, e2, _, w2⟩ := DataW.trod_int (k := .u8) (by kernel_rfl) t2
    obtain rfl : v2 = _ := by simpa using e2
    obtain ⟨v3, y3, n3, c3, t3⟩ := hf 3 _ rfl
    obtain ⟨a3, e3, _, w3⟩ := DataW.trod_int (k := .i16) (by kernel_rfl) t3
    obtain rfl : v3 = _ := by simpa using e3
    obtain ⟨v4, y4, n4, c4, t4⟩ := hf 4 _ rfl
    obtain ⟨a4, e4, _, w4⟩ := DataW.trod_int (k := .i32) (by kernel_rfl) t4
    obtain rfl : v4 = _ := by simpa using e4
    refine ⟨⟨a0, a1, a2, a3, a4⟩, ⟨w0, w1, w2, w3, w4⟩, _, k37_mk w _, fun i u hu => ?_⟩
    match i, hu with
    | 0, hu => obtain rfl := Option.some.inj hu; exact c0
    | 1, hu => obtain rfl := Option.some.inj hu; exact c1
    | 2, hu => obtain rfl := Option.some.inj hu; exact c2
    | 3, hu => obtain rfl := Option.some.inj hu; exact c3
    | 4, hu => obtain rfl := Option.some.inj hu; exact c4
    | i + 5, hu => simp at hu)
  exact ⟨A, l, c, by simpa using e, h2⟩
end Go.Proofs.YtondogoepcndiaaDoor.Opening

