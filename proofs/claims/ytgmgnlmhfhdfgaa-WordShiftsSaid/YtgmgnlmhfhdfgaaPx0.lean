/- Made by this session's driver over the kit's printer: for each Go function a Lean function with the same answers, and a proof that the Go call comes to these answers; no conditions but the ones each theorem names. -/
import Derived.Test.YtgmgnlmhfhdfgaaProg
import Derived.Below
import Derived.Deep.Draws
import Derived.Deep.AppendLies
import Derived.Maps.AppendAt
import Derived.OwnWalk
import Derived.Laws.BytesArg
import Derived.Laws.MakeOwn
import Derived.Laws.OwnMore
import Derived.Deep.OwnRows
import Derived.Tactics
import Derived.Lib.ConvBytes
import Derived.Laws.Slices
import Derived.WalkKit
import Derived.KernelRfl
import Derived.RowKit3
import Derived.Deep.LoopGhost
import Derived.Deep.QuietTactic
import Derived.BigQuiet
import Derived.WideLaws
import Derived.Deep.DeepCutAuto
import Derived.Deep.CutBlock
import Derived.Deep.RegionHeld3
import Derived.Laws.Rows
import Derived.Lib.AppendStr
import Derived.ArgAppend
import Derived.Laws.IdiomCopy
import Derived.OrdersHeld
import Derived.Laws.BitsLemmas
import Derived.RowKit
import Derived.Test.YtgmgnlmhfhdfgaaWWords
import Derived.Test.YtgmgnlmhfhdfgaaWLast
import Derived.Test.YtgmgnlmhfhdfgaaWTab
import Derived.Test.YtgmgnlmhfhdfgaaWFour
import Derived.Test.YtgmgnlmhfhdfgaaWQPut
import Derived.Test.YtgmgnlmhfhdfgaaWApart
import Derived.Test.YtgmgnlmhfhdfgaaWArr
import Derived.Test.YtgmgnlmhfhdfgaaWZeros
import Derived.Test.YtgmgnlmhfhdfgaaWFoot
import Derived.Test.YtgmgnlmhfhdfgaaWKept
import Derived.Test.YtgmgnlmhfhdfgaaWShare
import Derived.Test.YtgmgnlmhfhdfgaaWN
import Derived.Test.YtgmgnlmhfhdfgaaWFootNe
import Derived.Test.YtgmgnlmhfhdfgaaWAt
import Derived.Test.YtgmgnlmhfhdfgaaWEqStruct
import Derived.Test.YtgmgnlmhfhdfgaaWRepsOne
import Derived.Test.YtgmgnlmhfhdfgaaWInv
import Derived.Test.YtgmgnlmhfhdfgaaWInvWords
import Derived.Test.YtgmgnlmhfhdfgaaWGuard
import Derived.Test.YtgmgnlmhfhdfgaaWNEv
import Derived.Test.YtgmgnlmhfhdfgaaWMore
namespace Go.Proofs.Ytgmgnlmhfhdfgaa.P
open Go.RowKit Go.Proofs.YtgmgnlmhfhdfgaaW.PrintWords Go.Proofs.YtgmgnlmhfhdfgaaW.PrintLast Go.Proofs.YtgmgnlmhfhdfgaaW.PrintMore
attribute [local go_sem] max2_int min2_int max_two min_two max_three min_three max_four min_four   -- for this text's walks alone
set_option linter.unusedVariables false
set_option linter.unusedSimpArgs false



def errW : Option Int → Value
  | none => .nilIface
  | some c => .iface 0 (.int .i64 c)
theorem errW_none : errW none = .nilIface := rfl
theorem errW_some (c : Int) : errW (some c) = .iface 0 (.int .i64 c) := rfl

-- the values' own types


/-! words of this session -/
section
variable {P : Program} {ops : Array Oper} {rest : List Oper} {o : Oper} {a : Act} {Q : Exit → Act → World → Prop} {W w : World}
theorem gate_tmp {t : Tmp} {as_ : Array Operand} {ts : Array TypeId} (_ho : o.op = .call { callee := .value (.tmp t), args := as_, argTypes := ts }) (h : wpList P ops Q (o :: rest) a W) : wpList P ops Q (o :: rest) a W := h
theorem goesV_ {oi : Oper} (N : Option Tmp) (hd : oi.dst = N) (hg : oi.guard = none) {f : FuncId} {fn : Func} {t : Tmp} {as_ : Array Operand} {ts : Array TypeId} (hop : oi.op = .call { callee := .value (.tmp t), args := as_, argTypes := ts }) (hv : a.eval (.tmp t) = .func (.func f) #[] #[]) (hf : P.funcs[f]? = some fn) (hname : (fn.name == "runtime.NumGoroutine") = false) (hb : fn.body.isSome = true) (args : Array Value)
    (hargs : as_.map a.eval = args)
    (h : Calls P f args w fun e w' => ∃ v, e = .returned v ∧ wpList P ops Q rest (a.put N v) w') : wpList P ops Q (oi :: rest) a w := by
  refine wpList_plain hg fun K hK => ?_
  have he := enters_ hf hname hb args w
  have hv' : a.tmps.getD t undef = .func (.func f) #[] #[] := hv
  have hrun : (execOp a.eval oi).run P w = .ok (.enter f args) w := by
    unfold execOp
    simp [hop, resolve, hv, Deferred.ofValue, invoke, hargs, he]
  unfold Oper.wp
  rw [hrun, Oper.upon_enter]
  refine h.mono fun e w'' hh => ?_
  obtain ⟨v, rfl, hk⟩ := hh
  subst hd
  exact hK _ _ hk
/-- An array of constants, indexed. -/
theorem run_index_enc {α : Type} (enc : α → Value) (d : α) (xs : List α) {t e : TypeId} {n : Nat} {i : TypeInfo} {ki : IntKind} (j : Int) (W : World)
    (ht : P.underlying t = some (.array n e)) (hna : ∀ W : World, (isAgg e).run P W = .ok false W) (hi : P.info? e = some i) (hz : P.cellsOf e = 1)
    (h0 : 0 ≤ j) (h1 : j < (n : Int)) (hn : xs.length = n) : (Instr.index t (.agg (xs.map enc).toArray) (.int ki j)).run P W = .ok (enc (rdOf d xs j)) W := by
  obtain ⟨m, rfl⟩ := Int.eq_ofNat_of_zero_le h0
  have hm : m < xs.length := by omega
  have hc : 0 ≤ (m : Int) ∧ (m : Int) < (n : Int) := ⟨h0, h1⟩
  have hmn : m < n := by omega
  have hx : Option.map enc xs[m]? = some (enc (rdOf d xs m)) := by
    simp [rdOf, List.getElem?_eq_getElem hm, List.getD_eq_getElem?_getD]
  simp [Instr.index, asIntOf, run_underlying ht, run_sizeOf W hi, hz, part, hna, hc, hmn, hx]
end

end Go.Proofs.Ytgmgnlmhfhdfgaa.P
