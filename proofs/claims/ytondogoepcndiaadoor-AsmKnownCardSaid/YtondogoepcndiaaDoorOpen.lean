/- Helpers for rows: a struct of one-cell fields that came in by value, laid open cell by cell; no conditions but the ones each theorem names. -/
import Derived.ProofKit
import Derived.OpenShut
import Derived.ChangeSame
import Derived.Deep.Fields
import Derived.Lib.SmallJoins
import Derived.Lib.LaidTab
import Derived.SevenTiedAt
import Derived.Test.YtondogoepcndiaaDoorV
namespace Go.Proofs.YtondogoepcndiaaDoor.Opening
open Go.ChangeShapes Go.WideShapes Go.ChangeAt Go.RowKit Go.Deep Go.Joins
section
variable {H : Type} {enc : TypeId × Value → H} {P : Program} {w : World} {base : Nat} {spare : Nat → Bool} {held : Bool}
/-- What is known of a struct's cells. -/
def Cells {H : Type} (enc : TypeId × Value → H) (P : Program) (w : World) (base : Nat) (spare : Nat → Bool) (held : Bool) (fs : Array Field) (cs : List Value) : Prop :=
  cs.length = fs.size ∧ ∀ (j : Nat) (f : Field), fs[j]? = some f → ∃ (c : Value) (y : DataW H × List MemPlace) (n : Nat), cs[j]? = some c ∧ DataW.trod enc P w base spare held n f.type [c] = some y
theorem flat_struct {r : Reach} {b0 : Nat} {t : TypeId} {fs : Array Field} {v : Value} {d : DataW H} {p : List MemPlace} (hs : P.underlying t = some (.struct fs)) (hone : oneCellFields P fs = true) (hC : P.cellsOf t = fs.size)
    (hv : Value.okWide P w r b0 t v) (h : DataW.Trod enc P w base spare held t v d p) : ∃ cs : List Value, v = .agg cs.toArray ∧ Cells enc P w base spare held fs cs := by
  obtain ⟨cs, rfl, hsz⟩ := okWide_struct hs hv
  obtain ⟨l⟩ := cs
  obtain ⟨fuel, hf⟩ := h
  have hl : l.length = fs.size := by simpa using hsz.trans hC
  refine ⟨l, rfl, hl, fun j f hj => ?_⟩
  obtain ⟨xs, n, _, _, _, hlen, hg⟩ := DataW.trod_struct hs hf
  obtain ⟨o0, k0⟩ := hone_of hone j f hj
  have hjl : j < l.length := by have := (Array.getElem?_eq_some_iff.1 hj).1; omega
  have h1 := hg j f hj
  rw [o0, k0] at h1
  have h2 : (((Value.agg (Array.mk l)).cells.toList.drop j).take 1 : List Value) = ([l[j]] : List Value) := by
    simp only [Value.cells]
    rw [List.drop_eq_getElem_cons hjl]; rfl
  rw [h2] at h1
  have hx : j < xs.length := by have := (Array.getElem?_eq_some_iff.1 hj).1; omega
  exact ⟨l[j], xs[j], n, List.getElem?_eq_getElem hjl, h1.trans (List.getElem?_eq_getElem hx)⟩
theorem Cells.int {fs : Array Field} {cs : List Value} (h : Cells enc P w base spare held fs cs) (j : Nat) (f : Field) (hj : fs[j]? = some f) {k : IntKind} (hk : P.underlying f.type = some (.int k)) : ∃ a, cs[j]? = some (.int k a) ∧ (Lit.int k a).wf = true := by
  obtain ⟨c, y, n, hc, ht⟩ := h.2 j f hj
  obtain ⟨a, e1, _, e3⟩ := DataW.trod_int hk ht
  simp only [List.cons.injEq, and_true] at e1
  exact ⟨a, by rw [hc, e1], e3⟩
theorem Cells.bool {fs : Array Field} {cs : List Value} (h : Cells enc P w base spare held fs cs) (j : Nat) (f : Field) (hj : fs[j]? = some f) (hk : P.underlying f.type = some .bool) : ∃ a, cs[j]? = some (.bool a) := by
  obtain ⟨c, y, n, hc, ht⟩ := h.2 j f hj
  obtain ⟨a, e1, _⟩ := DataW.trod_bool hk ht
  simp only [List.cons.injEq, and_true] at e1
  exact ⟨a, by rw [hc, e1]⟩
end
theorem list1 {α : Type} {cs : List α} {n : Nat} {a0 : α} (h : cs.length = n) (hn : n = 1) (h0 : cs[0]? = some a0) : cs = [a0] := by
  subst hn
  match cs, h with
  | [c0], _ => simp_all
theorem list2 {α : Type} {cs : List α} {n : Nat} {a0 a1 : α} (h : cs.length = n) (hn : n = 2) (h0 : cs[0]? = some a0) (h1 : cs[1]? = some a1) : cs = [a0, a1] := by
  subst hn
  match cs, h with
  | [c0, c1], _ => simp_all
theorem list4 {α : Type} {cs : List α} {n : Nat} {a0 a1 a2 a3 : α} (h : cs.length = n) (hn : n = 4) (h0 : cs[0]? = some a0) (h1 : cs[1]? = some a1) (h2 : cs[2]? = some a2) (h3 : cs[3]? = some a3) : cs = [a0, a1, a2, a3] := by
  subst hn
  match cs, h with
  | [c0, c1, c2, c3], _ => simp_all
theorem list5 {α : Type} {cs : List α} {n : Nat} {a0 a1 a2 a3 a4 : α} (h : cs.length = n) (hn : n = 5) (h0 : cs[0]? = some a0) (h1 : cs[1]? = some a1) (h2 : cs[2]? = some a2) (h3 : cs[3]? = some a3) (h4 : cs[4]? = some a4) : cs = [a0, a1, a2, a3, a4] := by
  subst hn
  match cs, h with
  | [c0, c1, c2, c3, c4], _ => simp_all
theorem of_all {P : Program} {ps : Array TypeId} {j : Nat} {t : TypeId} (h : ps[j]? = some t) (ha : ps.all (fun t => !P.wantsStandIn t) = true) : P.wantsStandIn t = false := by
  obtain ⟨hj, rfl⟩ := Array.getElem?_eq_some_iff.1 h
  have := (Array.all_eq_true.1 ha) j hj
  simpa using this
theorem tab_C {P : Program} {w : World} {name : String} {k : IntKind} {zs : List Int} {g : Nat} (h : Lib.TabIs P w name k zs) (hg : P.globalNamed name = some g) (_hn : 0 < zs.length) (hb : zs.length ≤ 9223372036854775807) :
    Go.Proofs.YtondogoepcndiaaDoorW.PrintWords.Kd.C (Go.Proofs.YtondogoepcndiaaDoorW.PrintWords.Kd.int k) w (some ⟨g, 0, none⟩) zs.length zs :=
  Go.Proofs.YtondogoepcndiaaDoorW.PrintWords.Kd.C_of_reads (d := (0 : Int)) (h1 := fun _ => rfl) ⟨rfl, hb, fun _ => ⟨_, rfl, fun j hj => by
    have := h.cell hg j hj
    unfold Addr.add
    split
    · rename_i h0; subst h0; exact this
    · simpa using this⟩⟩
end Go.Proofs.YtondogoepcndiaaDoor.Opening
