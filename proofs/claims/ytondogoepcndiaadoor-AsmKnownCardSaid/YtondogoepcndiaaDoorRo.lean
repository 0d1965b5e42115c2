/- Chapter 03: what the rows share: what the library's own variables hold when a law is called; the wrap that keeps both the listed variables and the world's shape. -/
import Derived.Test.YtondogoepcndiaaDoorRows
import Derived.Test.YtondogoepcndiaaDoorPx0
import Derived.Test.YtondogoepcndiaaDoorOpen
import Derived.Handed
import Derived.HandedShaped
import Derived.LaidMore
import Derived.Lay
import Derived.Lib.LaidTab
import Derived.Stop.LaidErr
import Derived.Shelf.Vars
namespace Go
variable {H : Type} {enc : TypeId × Value → H}
theorem returnsInHanded_both {a : Assume} {C : Checked} {os : Os} {f : FuncId} {fn : Func} {s : ChangeSpec} {conds : List PathCond} {apart fresh handsOn again : Bool} {X : World → Array Value → Prop}
    (hX : ∀ (w w' : World) (args : Array Value), w.heap = w'.heap → X w args → X w' args)
    (own : ownKnob C.prog.godebug = none) (started : os.Started) (noInit : C.prog.inits.idxOf? f = none) (hfn : C.prog.funcs[f]? = some fn)
    (witness : ∃ (w : World) (tape : Tape) (i : Input), w.os = os ∧ (w.forCall tape i).Shaped C.prog ∧ i.vars = [] ∧ Input.okWide C.prog (w.forCall tape i) .any w.heap.size f i ∧
      ((s.pre enc C.prog fn conds apart (w.forCall tape i).memory i.args ∧ X (w.forCall tape i).memory i.args) ∧ sizedMet enc C.prog fn (OpenSpec.ofChange s) apart (w.forCall tape i).memory i.args) ∧ a.holds C.prog (lone (Frame.enter C.prog f i.args .normal) [] (w.forCall tape i)))
    (contract : ∀ (W : World) (base : Nat) (args : Array Value) (ds gs : List (DataW H)) (before : List MemPlace),
      (∀ (j : Nat) t v, fn.params[j]? = some t → args[j]? = some v → Value.okWide C.prog W .any base t v) →
      DataW.Whole enc C.prog fn.params.toList s.vars apart W args.toList ds gs before →
      conds.all (PathCond.test C.prog ⟨fn.params.toList, ds, s.plain.varTypes C.prog, gs⟩) = true →
      (DataW.weightsEach C.prog (fn.params.toList ++ s.plain.varTypes C.prog) (ds ++ gs)).all (· ≤ reachBytes) = true → (X W args ∧ W.ShapedOpen C.prog) →
      a.holds C.prog (lone (Frame.enter C.prog f args .normal) [] W) →
      Calls C.prog f args W fun e W' => ∃ v, e = .returned v ∧ s.post enc C.prog fn apart fresh handsOn again W args v W') :
    ReturnsInHanded a C os f .any (fun w args => (s.pre enc C.prog fn conds apart w args ∧ X w args) ∧ sizedMet enc C.prog fn (OpenSpec.ofChange s) apart w args) (s.post enc C.prog fn apart fresh handsOn again) := by
  refine returnsInHanded_of_calls own started noInit witness ?_
  intro w tape i _ hsh _ hok hpre hholds
  obtain ⟨_, _, _, fn', hfn', _, _, _, _, hval⟩ := hok
  have e : fn' = fn := Option.some.inj (hfn'.symm.trans hfn)
  subst e
  obtain ⟨⟨⟨ds, gs, before, hw, hc⟩, hx⟩, hz⟩ := hpre
  have hw' := DataW.Whole.of_heap (w' := w.forCall tape i) (by rfl) hw
  refine (contract (w.forCall tape i) w.heap.size i.args ds gs before hval hw' hc (hz.weights hw) ⟨hX _ _ _ (by rfl) hx, hsh⟩ hholds).mono fun e W' ⟨v, he, hp⟩ => ?_
  subst he
  exact ChangeSpec.post_blind hp
end Go
namespace Go.Proofs.YtondogoepcndiaaDoor.Rw
open Go.RowKit
set_option maxRecDepth 100000
def X : List (String × DataW Unit) := Rows.asmKnownRow.laid
theorem star_es : "*" ++ "errors.errorString" = "*errors.errorString" := by decide
theorem row_es (u : TypeId) (h : Tryd.prog.typeName? 3 u = some "*errors.errorString") : u = 158 :=
  typeName_ptr_named (nm := "errors.errorString") (by rw [star_es]; kernel_rfl) (by kernel_rfl) (by decide) u (by rw [star_es]; exact h)
theorem shaped (os : Os) : (World.laidAll Tryd.prog os X).os = os := World.laidAll_os _ _ _
theorem cells_of_strs {H : Type} {enc : TypeId × Value → H} {P : Program} {w : World} {base : Nat} {sp : Nat → Bool} {held : Bool} {fuel : Nat} {t e : TypeId} {n : Nat} {cs : List Value} {zs : List ByteArray} {p : List MemPlace}
    (ht : P.underlying t = some (.array n e)) (he : P.underlying e = some .string) (hce : P.cellsOf e = 1) (hct : P.cellsOf t = n)
    (h : DataW.trod enc P w base sp held fuel t cs = some (.agg (zs.map fun z => .lit (.string z.data.toList)), p)) : cs = zs.map Value.string := by
  cases fuel with
  | zero => simp [DataW.trod] at h
  | succ fuel =>
    simp only [DataW.trod, ht, hce, hct, Nat.mul_one] at h
    split at h
    · rename_i hl
      obtain ⟨xs, hm, hx⟩ := Option.map_eq_some_iff.1 h
      have hxs : xs.map (·.1) = zs.map fun z => (DataW.lit (.string z.data.toList) : DataW H) := by
        have := congrArg Prod.fst hx
        simpa using this
      have hxl : xs.length = n := by simpa using Lib.mapM_length hm
      have hzl : zs.length = n := by
        have := congrArg List.length hxs
        simp at this
        omega
      apply List.ext_getElem?
      intro i
      by_cases hi : i < n
      · obtain ⟨b, hb, hf⟩ := Lib.mapM_at hm i i (by simp [hi])
        obtain ⟨z, hc, rfl, _⟩ := DataW.trod_string he hf
        have h1 : cs[i]? = some (.string z) := by
          have := congrArg (·[0]?) hc
          simpa [List.getElem?_take, List.getElem?_drop] using this
        have h2 : (xs.map (·.1))[i]? = some (DataW.lit (.string z.data.toList) : DataW H) := by simp [hb]
        rw [hxs] at h2
        simp only [List.getElem?_map, Option.map_eq_some_iff, DataW.lit.injEq, Lit.string.injEq] at h2
        obtain ⟨z', hz', e2⟩ := h2
        have : z' = z := by rw [show z' = ⟨z'.data.toList.toArray⟩ from rfl, show z = ⟨z.data.toList.toArray⟩ from rfl, e2]
        subst this
        simp [h1, hz']
      · rw [List.getElem?_eq_none (by omega), List.getElem?_eq_none (by simp; omega)]
    · cases h
theorem strs_head {P : Program} {W : World} {name : String} {zs : List ByteArray} {rest : List (String × DataW Unit)} {g : Nat} {t e : TypeId} {n : Nat} (hb : zs.length ≤ 9223372036854775807)
    (hg : P.globalNamed name = some g) (hty : (P.globals[g]?).map (·.type) = some t) (ht : P.underlying t = some (.array n e)) (he : P.underlying e = some .string) (hce : P.cellsOf e = 1) (hct : P.cellsOf t = n)
    (h : laidMet P ((name, .agg (zs.map fun z => .lit (.string z.data.toList))) :: rest) W) : Go.Proofs.YtondogoepcndiaaDoorW.PrintWords.Kd.C Go.Proofs.YtondogoepcndiaaDoorW.PrintWords.Kd.string W (some ⟨g, 0, none⟩) zs.length zs := by
  obtain ⟨ps, ⟨g', t', cs, fuel, p, q, hg', ht', hvar, hd, _, _⟩, _⟩ := h
  obtain rfl := Option.some.inj (hg.symm.trans hg')
  obtain rfl := Option.some.inj (hty.symm.trans ht')
  have hvar2 : W.var? P name = some (zs.map Value.string).toArray := by rw [hvar, ← cells_of_strs ht he hce hct hd]
  exact Go.Proofs.YtondogoepcndiaaDoorW.PrintWords.Kd.C_of_reads (d := ByteArray.empty) (h1 := fun _ => rfl) ⟨rfl, hb, fun _ => ⟨_, rfl, fun j hj => by
    have := World.var?_cell hg hvar2 j
    have e2 : W.cell? ⟨g, j, none⟩ = some (.string (zs.getD j ByteArray.empty)) := by
      rw [List.getD_eq_getElem?_getD, List.getElem?_eq_getElem hj]
      simpa [hj] using this
    unfold Addr.add
    split
    · rename_i h0; subst h0; exact e2
    · simpa using e2⟩⟩
structure All (w : World) : Prop where
  c0 : Go.Proofs.YtondogoepcndiaaDoorW.PrintWords.Kd.C Go.Proofs.YtondogoepcndiaaDoorW.PrintWords.Kd.string w (some ⟨0, 0, none⟩) P.gl0.length P.gl0
  c1 : Go.Proofs.YtondogoepcndiaaDoorW.PrintWords.Kd.C Go.Proofs.YtondogoepcndiaaDoorW.PrintWords.Kd.string w (some ⟨1, 0, none⟩) P.gl1.length P.gl1
  c2 : Go.Proofs.YtondogoepcndiaaDoorW.PrintWords.Kd.C (Go.Proofs.YtondogoepcndiaaDoorW.PrintWords.Kd.int .i64) w (some ⟨2, 0, none⟩) P.gl2.length P.gl2
  c3 : P.GF w
theorem gf {w : World} (h : laidMetH Tryd.prog X w) (hs : w.ShapedOpen Tryd.prog) : P.GF w := by
  rw [MakeChecks.laidMetH_plain _ _ _ (by kernel_rfl)] at h
  refine ⟨cell_of_shapedOpen_int (P := Tryd.prog) (g := 3) (t := 3) (zero := #[.int .i64 0]) hs (of_decide_eq_true (by kernel_rfl)) (by kernel_rfl) rfl (by kernel_rfl) (by kernel_rfl) Tryd.underlying3, ?_, ?_, ?_⟩
  · have e : Lib.tabData (H := Unit) .u64 Lib.pow10Tab = Rows.laid_internal_strconv_uint64pow10 := by kernel_rfl
    have h2 : laidMet Tryd.prog (("internal/strconv.uint64pow10", Lib.tabData .u64 Lib.pow10Tab) :: X.tail.tail.tail) w := by
      rw [e]; exact h.tail.tail
    exact Lib.tabIs_of_head (g := 4) (by kernel_rfl) (by kernel_rfl) Tryd.underlying138 Tryd.underlying79 (by kernel_rfl) (by kernel_rfl) h2
  · obtain ⟨a, s, hv, _⟩ := laid_sentinel (ti := 53) (tp := 158) (te := 160) (ts := 9) h.tail.tail.tail.tail.tail.tail (show Tryd.prog.globalNamed "strconv.ErrSyntax" = some 5 by kernel_rfl) (by kernel_rfl) Tryd.underlying53 row_es Tryd.underlying158 Tryd.underlying160 rfl rfl Tryd.underlying9 (by kernel_rfl) (by kernel_rfl)
    exact ⟨_, _, by have := World.var?_cell (show Tryd.prog.globalNamed "strconv.ErrSyntax" = some 5 by kernel_rfl) hv 0; simpa using this⟩
  · obtain ⟨a, s, hv, _⟩ := laid_sentinel (ti := 53) (tp := 158) (te := 160) (ts := 9) h.tail.tail.tail.tail.tail (show Tryd.prog.globalNamed "strconv.ErrRange" = some 6 by kernel_rfl) (by kernel_rfl) Tryd.underlying53 row_es Tryd.underlying158 Tryd.underlying160 rfl rfl Tryd.underlying9 (by kernel_rfl) (by kernel_rfl)
    exact ⟨_, _, by have := World.var?_cell (show Tryd.prog.globalNamed "strconv.ErrRange" = some 6 by kernel_rfl) hv 0; simpa using this⟩
theorem all {w : World} (h : laidMetH Tryd.prog X w) (hs : w.ShapedOpen Tryd.prog) : All w := by
  have hg := gf h hs
  rw [MakeChecks.laidMetH_plain _ _ _ (by kernel_rfl)] at h
  refine ⟨?_, ?_, ?_, hg⟩
  · have e : (DataW.agg (P.gl0.map fun z => .lit (.string z.data.toList)) : DataW Unit) = Rows.laid_stockade_asm_names := by kernel_rfl
    have h2 : laidMet Tryd.prog (("stockade/asm.names", (DataW.agg (P.gl0.map fun z => .lit (.string z.data.toList)) : DataW Unit)) :: X.tail.tail.tail.tail.tail.tail.tail.tail) w := by
      rw [e]; exact h.tail.tail.tail.tail.tail.tail.tail
    exact strs_head (by decide) (g := 0) (by kernel_rfl) (by kernel_rfl) Tryd.underlying75 Tryd.underlying9 (by kernel_rfl) (by kernel_rfl) h2
  · have e : (DataW.agg (P.gl1.map fun z => .lit (.string z.data.toList)) : DataW Unit) = Rows.laid_stockade_asm_conds := by kernel_rfl
    have h2 : laidMet Tryd.prog (("stockade/asm.conds", (DataW.agg (P.gl1.map fun z => .lit (.string z.data.toList)) : DataW Unit)) :: X.tail.tail.tail.tail.tail.tail.tail.tail.tail) w := by
      rw [e]; exact h.tail.tail.tail.tail.tail.tail.tail.tail
    exact strs_head (by decide) (g := 1) (by kernel_rfl) (by kernel_rfl) Tryd.underlying77 Tryd.underlying9 (by kernel_rfl) (by kernel_rfl) h2
  · have e : Lib.tabData (H := Unit) .i64 P.gl2 = Rows.laid_stockade_insn_sizes := by kernel_rfl
    have h2 : laidMet Tryd.prog (("stockade/insn.sizes", Lib.tabData .i64 P.gl2) :: X.tail.tail.tail.tail) w := by
      rw [e]; exact h.tail.tail.tail
    exact Opening.tab_C (Lib.tabIs_of_head (g := 2) (by kernel_rfl) (by kernel_rfl) Tryd.underlying105 Tryd.underlying3 (by kernel_rfl) (by kernel_rfl) h2) (by kernel_rfl) (by decide) (by decide)
theorem lay_shaped (os : Os) (args : List Value) : ((World.laidAll Tryd.prog os X).forCall (fun _ _ => 0) ⟨#[], args.toArray, []⟩).Shaped Tryd.prog :=
  World.shaped_of_ZipB (by kernel_rfl) (by kernel_rfl)
theorem lay_met (os : Os) (args : Array Value) : laidMetH Tryd.prog X ((World.laidAll Tryd.prog os X).forCall (fun _ _ => 0) ⟨#[], args, []⟩).memory := by
  rw [MakeChecks.laidMetH_plain _ _ _ (by kernel_rfl)]; exact laidMet_laidAll _ (by kernel_rfl) (by kernel_rfl)
end Go.Proofs.YtondogoepcndiaaDoor.Rw
