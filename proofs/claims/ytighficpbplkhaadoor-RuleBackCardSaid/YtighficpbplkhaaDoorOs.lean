/- Rows of chapter 18: an argument that is a table (rules of tests), one that is a packet; each theorem names its conditions. -/
import Derived.Deep.Slices
import Derived.Deep.Fields
import Derived.ChangeSame
import Derived.SizedLaws
import Derived.OpenShut
import Derived.Lib.SmallJoins
import Derived.Test.YtighficpbplkhaaDoorQb
import Derived.Test.YtighficpbplkhaaDoorOpen
namespace Go.Proofs.YtighficpbplkhaaDoor.Opening
open Go.ChangeShapes Go.WideShapes Go.ChangeAt Go.RowKit Go.Deep Go.Joins Go.Proofs.YtighficpbplkhaaDoorW.PrintWords Go.Proofs.YtighficpbplkhaaDoor.P Go.Proofs.YtighficpbplkhaaDoor.Pure
set_option linter.unusedVariables false
section
variable {H : Type} {enc : TypeId × Value → H} {P : Program} {w : World} {base : Nat} {spare : Nat → Bool} {held : Bool}
theorem weightsAll_mem {e : TypeId} : ∀ {l : List (DataW H)} {d : DataW H}, d ∈ l → ∀ n ∈ d.weights P e, n ∈ DataW.weightsAll P e l := by
  intro l
  induction l with
  | nil => intro d hd; simp at hd
  | cons x l ih =>
    intro d hd n hn
    unfold DataW.weightsAll
    rcases List.mem_cons.1 hd with rfl | hd
    · exact List.mem_append_left _ hn
    · exact List.mem_append_right _ (ih hd n hn)
def Light (P : Program) (t : TypeId) (d : DataW H) : Prop := ∀ n ∈ d.weights P t, n ≤ reachBytes
theorem light_elem {t e : TypeId} {es rs : List (DataW H)} (hu : P.underlying t = some (.slice e)) (h : Light P t (.slice es rs)) {d : DataW H} (hd : d ∈ es) : Light P e d := fun n hn => h n (by
  unfold DataW.weights
  rw [hu]
  exact List.mem_cons_of_mem _ (List.mem_append_left _ (weightsAll_mem hd n hn)))
theorem light_len {t e : TypeId} {es rs : List (DataW H)} (hu : P.underlying t = some (.slice e)) (h : Light P t (.slice es rs)) (hb : 1 ≤ P.bytesOf e) : es.length ≤ 140737488351232 := by
  have h1 : (es.length + rs.length) * P.bytesOf e ≤ reachBytes := h _ (by unfold DataW.weights; rw [hu]; exact List.mem_cons_self)
  have h2 : (es.length + rs.length) * 1 ≤ (es.length + rs.length) * P.bytesOf e := Nat.mul_le_mul_left _ hb
  have h3 : reachBytes = 140737488351232 := by decide
  omega
theorem light_part {t : TypeId} {fs : Array Field} {parts : List (DataW H)} (hu : P.underlying t = some (.struct fs)) (h : Light P t (.agg parts)) {j : Nat} {f : Field} {d : DataW H} (hf : fs[j]? = some f) (hd : parts[j]? = some d) : Light P f.type d := fun n hn => h n (by
  unfold DataW.weights
  rw [hu]
  exact DataW.weights_mem_each (j := j) (t := f.type) (by rw [List.getElem?_map, Array.getElem?_toList, hf]; rfl) hd n hn)
theorem light_arg {ts : List TypeId} {ds : List (DataW H)} (h : (DataW.weightsEach P ts ds).all (· ≤ reachBytes) = true) {j : Nat} {t : TypeId} {d : DataW H} (ht : ts[j]? = some t) (hd : ds[j]? = some d) : Light P t d := fun n hn => by
  have := List.all_eq_true.1 h n (DataW.weights_mem_each ht hd n hn)
  simpa using this
theorem open_rows {α : Type} [Inhabited α] (K : Kd α) (R : α → Prop) {t e : TypeId} {fs : Array Field} {fuel : Nat} {cs : List Value} {x : DataW H × List MemPlace} (ht : P.underlying t = some (.slice e)) (he : P.underlying e = some (.struct fs))
    (hone : oneCellFields P fs = true) (hC : P.cellsOf e = fs.size) (hK : K.sz = fs.size) (hb1 : 1 ≤ P.bytesOf e) (h : DataW.trod enc P w base spare held fuel t cs = some x) (hlt : Light P t x.1)
    (one : ∀ D : Addr, (∀ (j : Nat) (f : Field), fs[j]? = some f → ∃ (v : Value) (y : DataW H × List MemPlace) (n : Nat), w.cell? (D.add j) = some v ∧ DataW.trod enc P w base spare held n f.type [v] = some y ∧ Light P f.type y.1) → ∃ z : α, R z ∧ ∃ c, K.K w z c ∧ ∀ i u, c[i]? = some u → w.cell? (D.add i) = some u) :
    ∃ (A : Option Addr) (l : List α) (c : Nat), cs = [.slice A l.length c] ∧ K.C w A l.length l ∧ l.length ≤ c ∧ (∀ z ∈ l, R z) ∧ l.length ≤ 140737488351232 := by
  rcases open_slice ht h with ⟨rfl, rfl⟩ | ⟨a, len, cap, m, n, D, Pl, rfl, hb, hl, hm, hmm, rfl, hi⟩
  · exact ⟨none, [], 0, rfl, ⟨rfl, by simp, fun h => absurd h (by simp)⟩, by simp, by simp, by simp⟩
  · have hlm : len ≤ m := by rw [hmm]; split <;> omega
    obtain ⟨V, hV⟩ := choose_lt (α := α) (n := len) (p := fun i z => R z ∧ ∃ c, K.K w z c ∧ ∀ i_1 u, c[i_1]? = some u → w.cell? (a.add (i * fs.size + i_1)) = some u) (fun i hil => by
      obtain ⟨cs', hc, ht'⟩ := hi i (by omega)
      rw [hC] at hc
      obtain ⟨ys, n', hn', hy, hlen, hyl, hf⟩ := DataW.trod_struct he ht'
      have lz : Light P e (D i) := light_elem ht hlt (List.mem_map.2 ⟨i, List.mem_range.2 hil, rfl⟩)
      have hy1 : D i = .agg (ys.map (·.1)) := (Prod.mk.inj hy).1
      rw [hy1] at lz
      obtain ⟨_, hcl, hat⟩ := World.cells?_some hc
      obtain ⟨z, hz, c, hc1, hc2⟩ := one (a.add (i * fs.size)) (fun j f hj => by
        obtain ⟨ho, hk⟩ := hone_of hone j f hj
        have hjl : j < fs.size := (Array.getElem?_eq_some_iff.1 hj).1
        have hcell := hat j hjl
        have hv : cs'[j]? = some (cs'[j]'(by omega)) := List.getElem?_eq_getElem (by omega)
        have h1 := hf j f hj
        rw [ho, hk] at h1
        have hone' : (cs'.drop j).take 1 = [cs'[j]'(by omega)] := by
          rw [List.drop_eq_getElem_cons (by omega)]
          rfl
        rw [hone'] at h1
        have hys : ys[j]? = some (ys[j]'(by omega)) := List.getElem?_eq_getElem (by omega)
        exact ⟨_, _, n', hcell.trans hv, h1.trans hys, light_part he lz hj (by rw [List.getElem?_map, hys]; rfl)⟩)
      exact ⟨z, hz, c, hc1, fun k u hu => by rw [← Go.Deep.add_add]; exact hc2 k u hu⟩)
    have hL : ((List.range len).map V).length = len := by simp
    have hlen := light_len ht hlt hb1
    refine ⟨some a, (List.range len).map V, cap, by rw [hL], ⟨rfl, by rw [hL]; exact Nat.le_trans hl (Nat.le_trans hm (by decide)), fun _ => ⟨a, rfl, fun j p hj => ?_⟩⟩, by rw [hL]; exact hl, ?_, by simpa using hlen⟩
    · obtain ⟨hj1, hj2⟩ := List.getElem?_eq_some_iff.1 hj
      have hjl : j < len := by simpa using hj1
      obtain rfl : V j = p := by simpa using hj2
      obtain ⟨_, c, hc1, hc2⟩ := hV j hjl
      exact ⟨c, K.K_len hc1, hc1, fun i u hu => by rw [hK]; exact hc2 i u hu⟩
    · intro z hz
      obtain ⟨i, hi', rfl⟩ := List.mem_map.1 hz
      exact (hV i (List.mem_range.1 hi')).1
theorem open_bytes {t e : TypeId} {fuel : Nat} {v : Value} {x : DataW H × List MemPlace} (ht : P.underlying t = some (.slice e)) (he : P.underlying e = some (.int .u8)) (hC : P.cellsOf e = 1) (hb1 : 1 ≤ P.bytesOf e) (h : DataW.trod enc P w base spare held fuel t [v] = some x) (hlt : Light P t x.1) :
    ∃ (A : Option Addr) (l : List Int) (c : Nat), v = .slice A l.length c ∧ (Kd.int .u8).C w A l.length l ∧ l.length ≤ c ∧ Bytes l := by
  rcases open_slice1 ht hC h with ⟨hv, rfl⟩ | ⟨a, len, cap, m, n, V, D, Pl, hv, hb, hl, hm, hmm, rfl, hi⟩
  · obtain rfl : v = .slice none 0 0 := by simpa using hv
    exact ⟨none, [], 0, rfl, ⟨rfl, by simp, fun h => absurd h (by simp)⟩, by simp, by simp, fun b hb => by simp at hb⟩
  · obtain rfl : v = .slice (some a) len cap := by simpa using hv
    have hlm : len ≤ m := by rw [hmm]; split <;> omega
    obtain ⟨Z, hZ⟩ := choose_lt (α := Int) (n := len) (p := fun i z => w.cell? (a.add i) = some (.int .u8 z) ∧ 0 ≤ z ∧ z ≤ 255) (fun i hil => by
      obtain ⟨h1, h2⟩ := hi i (by omega)
      obtain ⟨z, e1, _, wz⟩ := DataW.trod_int he h2
      obtain e1 : V i = .int .u8 z := by simpa using e1
      have hw : 0 ≤ z ∧ z ≤ 255 := by
        simp [Lit.wf, IntKind.min, IntKind.max, IntKind.signed, IntKind.bits] at wz
        omega
      exact ⟨z, by rw [h1, e1], hw⟩)
    have hL : ((List.range len).map Z).length = len := by simp
    have hlen := light_len ht hlt hb1
    refine ⟨some a, (List.range len).map Z, cap, by rw [hL], Kd.C_of_reads (d := (0 : Int)) (h1 := fun _ => rfl) ⟨rfl, by rw [hL]; exact Nat.le_trans hl (Nat.le_trans hm (by decide)), fun _ => ⟨a, rfl, fun j hj => ?_⟩⟩, by rw [hL]; exact hl, by simpa using hlen, ?_⟩
    · have hjl : j < len := by simpa using hj
      rw [(hZ j hjl).1]
      simp [List.getD, hjl]
    · intro b hb
      obtain ⟨i, hi', rfl⟩ := List.mem_map.1 hb
      exact (hZ i (List.mem_range.1 hi')).2
end
instance : Inhabited S55 := ⟨z55⟩
instance : Inhabited S46 := ⟨z46⟩
theorem wf_i64 {n : Int} (h : (Lit.int .i64 n).wf = true) : -9223372036854775808 ≤ n ∧ n ≤ 9223372036854775807 := by
  simp [Lit.wf, IntKind.min, IntKind.max, IntKind.signed, IntKind.bits] at h; omega
theorem wf_u64 {n : Int} (h : (Lit.int .u64 n).wf = true) : 0 ≤ n ∧ n ≤ 18446744073709551615 := by
  simp [Lit.wf, IntKind.min, IntKind.max, IntKind.signed, IntKind.bits] at h; omega
theorem wf_u32 {n : Int} (h : (Lit.int .u32 n).wf = true) : 0 ≤ n ∧ n ≤ 4294967295 := by
  simp [Lit.wf, IntKind.min, IntKind.max, IntKind.signed, IntKind.bits] at h; omega
theorem openTests {H : Type} {enc : TypeId × Value → H} {w : World} {base : Nat} {spare : Nat → Bool} {held : Bool} {t : TypeId} {fuel : Nat} {v : Value} {x : DataW H × List MemPlace} (ht : Tryd.prog.underlying t = some (.slice 55)) (h : DataW.trod enc Tryd.prog w base spare held fuel t [v] = some x) (hlt : Light Tryd.prog t x.1) :
    ∃ (A : Option Addr) (l : List S55) (c : Nat), v = .slice A l.length c ∧ Kd.C k55 w A l.length l ∧ l.length ≤ c ∧ (∀ z ∈ l, okT z) ∧ l.length ≤ 140737488351232 := by
  obtain ⟨A, l, c, e, h2⟩ := open_rows k55 okT ht Tryd.underlying55 (by kernel_rfl) (by kernel_rfl) (by kernel_rfl) (of_decide_eq_true (by kernel_rfl)) h hlt (fun D hf => by
    obtain ⟨v0, y0, n0, c0, t0, _⟩ := hf 0 _ rfl
    obtain ⟨a0, e0, _⟩ := DataW.trod_bool (by kernel_rfl) t0
    obtain rfl : v0 = _ := by simpa using e0
    obtain ⟨v1, y1, n1, c1, t1, _⟩ := hf 1 _ rfl
    obtain ⟨a1, e1, _, w1⟩ := DataW.trod_int (k := .i64) (by kernel_rfl) t1
    obtain rfl : v1 = _ := by simpa using e1
    obtain ⟨v2, y2, n2, c2, t2, _⟩ := hf 2 _ rfl
    obtain ⟨a2, e2, _, w2⟩ := DataW.trod_int (k := .i64) (by kernel_rfl) t2
    obtain rfl : v2 = _ := by simpa using e2
    obtain ⟨v3, y3, n3, c3, t3, _⟩ := hf 3 _ rfl
    obtain ⟨a3, e3, _, w3⟩ := DataW.trod_int (k := .i64) (by kernel_rfl) t3
    obtain rfl : v3 = _ := by simpa using e3
    obtain ⟨v4, y4, n4, c4, t4, _⟩ := hf 4 _ rfl
    obtain ⟨a4, e4, _, w4⟩ := DataW.trod_int (k := .u64) (by kernel_rfl) t4
    obtain rfl : v4 = _ := by simpa using e4
    obtain ⟨v5, y5, n5, c5, t5, _⟩ := hf 5 _ rfl
    obtain ⟨a5, e5, _, w5⟩ := DataW.trod_int (k := .u64) (by kernel_rfl) t5
    obtain rfl : v5 = _ := by simpa using e5
    obtain ⟨v6, y6, n6, c6, t6, _⟩ := hf 6 _ rfl
    obtain ⟨a6, e6, _, w6⟩ := DataW.trod_int (k := .u64) (by kernel_rfl) t6
    obtain rfl : v6 = _ := by simpa using e6
    refine ⟨⟨a0, a1, a2, a3, a4, a5, a6⟩, ⟨wf_i64 w1, wf_i64 w2, wf_i64 w3, wf_u64 w4, wf_u64 w5, wf_u64 w6⟩, _, k55_mk w _, fun i u hu => ?_⟩
    match i, hu with
    | 0, hu => obtain rfl := Option.some.inj hu; exact c0
    | 1, hu => obtain rfl := Option.some.inj hu; exact c1
    | 2, hu => obtain rfl := Option.some.inj hu; exact c2
    | 3, hu => obtain rfl := Option.some.inj hu; exact c3
    | 4, hu => obtain rfl := Option.some.inj hu; exact c4
    | 5, hu => obtain rfl := Option.some.inj hu; exact c5
    | 6, hu => obtain rfl := Option.some.inj hu; exact c6
    | i + 7, hu => simp at hu)
  exact ⟨A, l, c, by simpa using e, h2⟩
theorem openRules {H : Type} {enc : TypeId × Value → H} {w : World} {base : Nat} {spare : Nat → Bool} {held : Bool} {t : TypeId} {fuel : Nat} {v : Value} {x : DataW H × List MemPlace} (ht : Tryd.prog.underlying t = some (.slice 46)) (h : DataW.trod enc Tryd.prog w base spare held fuel t [v] = some x) (hlt : Light Tryd.prog t x.1) :
    ∃ (A : Option Addr) (l : List S46) (c : Nat), v = .slice A l.length c ∧ Kd.C k46 w A l.length l ∧ l.length ≤ c ∧ okL l := by
  obtain ⟨A, l, c, e, h2, h3, h4, h5⟩ := open_rows k46 okR ht Tryd.underlying46 (by kernel_rfl) (by kernel_rfl) (by kernel_rfl) (of_decide_eq_true (by kernel_rfl)) h hlt (fun D hf => by
    obtain ⟨v0, y0, n0, c0, t0, l0⟩ := hf 0 _ rfl
    obtain ⟨A0, z0, k0, rfl, hr0, hc0, hw0, hn0⟩ := openTests (by kernel_rfl) t0 l0
    obtain ⟨v1, y1, n1, c1, t1, _⟩ := hf 1 _ rfl
    obtain ⟨a1, e1, _, w1⟩ := DataW.trod_int (k := .u32) (by kernel_rfl) t1
    obtain rfl : v1 = _ := by simpa using e1
    refine ⟨⟨z0, a1⟩, ⟨hn0, hw0, wf_u32 w1⟩, _, k46_mk w _ hc0 hr0, fun i u hu => ?_⟩
    match i, hu with
    | 0, hu => obtain rfl := Option.some.inj hu; exact c0
    | 1, hu => obtain rfl := Option.some.inj hu; exact c1
    | i + 2, hu => simp at hu)
  exact ⟨A, l, c, by simpa using e, h2, h3, h5, h4⟩
set_option maxRecDepth 100000 in
theorem openPacket {H : Type} {enc : TypeId × Value → H} {w : World} {base : Nat} {spare : Nat → Bool} {held : Bool} {r : Reach} {b0 : Nat} {v : Value} {d : DataW H} {p : List MemPlace} (hv : Value.okWide Tryd.prog w r b0 40 v) (h : DataW.Trod enc Tryd.prog w base spare held 40 v d p) (hlt : Light Tryd.prog 40 d) :
    ∃ (A : Option Addr) (l : List Int) (c : Nat) (a : Int), v = .agg #[.slice A l.length c, .int .u32 a] ∧ Kd.C (Kd.int .u8) w A l.length l ∧ l.length ≤ c ∧ Bytes l ∧ (Lit.int .u32 a).wf = true := by
  obtain ⟨cs, rfl, hsz⟩ := okWide_struct Tryd.underlying40 hv
  obtain ⟨l⟩ := cs
  obtain ⟨fuel, hf⟩ := h
  have hl : l.length = 2 := by
    have hC : Tryd.prog.cellsOf 40 = 2 := by kernel_rfl
    simpa using hsz.trans hC
  obtain ⟨xs, n, _, hx, _, hlen, hg⟩ := DataW.trod_struct Tryd.underlying40 hf
  have hx1 : d = .agg (xs.map (·.1)) := (Prod.mk.inj hx).1
  rw [hx1] at hlt
  match l, hl, hg with
  | [v0, v1], _, hg =>
    have hxl : xs.length = 2 := hlen
    have g0 := hg 0 _ rfl
    have g1 := hg 1 _ rfl
    have x0 : xs[0]? = some (xs[0]'(by omega)) := List.getElem?_eq_getElem (by omega)
    have x1 : xs[1]? = some (xs[1]'(by omega)) := List.getElem?_eq_getElem (by omega)
    have t0 : DataW.trod enc Tryd.prog w base spare held n 37 [v0] = some (xs[0]'(by omega)) := g0.trans x0
    have t1 : DataW.trod enc Tryd.prog w base spare held n 38 [v1] = some (xs[1]'(by omega)) := g1.trans x1
    have l0 : Light Tryd.prog 37 (xs[0]'(by omega)).1 := light_part (j := 0) Tryd.underlying40 hlt rfl (by rw [List.getElem?_map, x0]; rfl)
    obtain ⟨A, l, c, rfl, hr, hc, hb⟩ := open_bytes Tryd.underlying37 (by kernel_rfl) (by kernel_rfl) (of_decide_eq_true (by kernel_rfl)) t0 l0
    obtain ⟨a1, e1, _, w1⟩ := DataW.trod_int (k := .u32) (by kernel_rfl) t1
    obtain rfl : v1 = _ := by simpa using e1
    exact ⟨A, l, c, a1, rfl, hr, hc, hb, w1⟩
end Go.Proofs.YtighficpbplkhaaDoor.Opening
