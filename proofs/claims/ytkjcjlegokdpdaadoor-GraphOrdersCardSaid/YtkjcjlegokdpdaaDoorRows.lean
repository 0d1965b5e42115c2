/-
  NARROWER THAN 'FOR EVERY INPUT', by the rows' own cells (each row's printed sentence says how): GraphNext: laid · GraphOrders: laid · GraphBlind: laid · GraphReached: laid · GraphLeast: laid · GraphWays: laid · GraphKnown: laid.
  DERIVED. THE GIVEN ROWS OF THIS SEAT. 7 by the template 'for every input the law returns true; each argument reads behind the call as it read before'; 0 by the template 'total and deterministic' (their statements: YtkjcjlegokdpdaaDoorTotals.lean).
  GIVEN WITH THE SEED: the statements are not yours to turn. If you find one false, say at which input.
  Laid BY PROGRAM, IN A SANDBOX (cutbox-rows.mjs): the forced cells as the released guide's own fill.sh prints them over the translation 81cee13f5d55a08b… (all of the seat's roots in one cut). By AI agents, Wed Nov 11 2026. No macro, syntax, notation, axiom, sorry.
-/
import Derived.Test.YtkjcjlegokdpdaaDoorChecked
import GoSem.Claim
import GoSem.ClaimJoined
import GoSem.ClaimMapViews
import Derived.JoinedTies
import Derived.KernelRfl
namespace Go.Proofs.YtkjcjlegokdpdaaDoor
/- THE CELL 'sum', in the pinned program and in every row, IS THE sha256 OF THE DUMP (.gsa) THAT YtkjcjlegokdpdaaDoorProg.lean LOADS. Nothing in Lean hashes anything: it is a label: what it is worth is what the hold of that sum in a sandbox is worth. -/
noncomputable def Tryd.pinned : Pinned := { name := "ytkjcjlegokdpdaadoor", sum := "81cee13f5d55a08b1e333cafe747ddfda3e23689746f3608f6fc90d602eccc3c", checked := Tryd.checked }
namespace Rows
def none {H : Type} : Left H := { results := [], args := [] }

/- WHAT THE LISTED PACKAGE-LEVEL VARIABLES READ AS WHEN THE CALL BEGINS. Each datum BY PROGRAM (the guide's laid-datum.mjs) off the statement by which the dump's own 'gosem.cut.vars' lays the variable. In a bare row this is a premise. The card (YtkjcjlegokdpdaaDoorCards.lean) ties it to the program's text. -/
def laid_stockade_insn_sizes {H : Type} : DataW H := .agg [.lit (.int .i64 4), .lit (.int .i64 2), .lit (.int .i64 1), .lit (.int .i64 8)]

/-- 'stockadelaw05.GraphNext': WHATEVER THE INPUT: true; the input reads as it did. -/
def graphNextSpec : ChangeSpec := { name := "graphNext", fn := fun _ => fun
  | [d1, d2] => { results := [.lit (.bool true)], args := [d1, d2] }
  | _ => none }
def graphNextRow : OpenClaim := { program := "ytkjcjlegokdpdaadoor", sum := "81cee13f5d55a08b1e333cafe747ddfda3e23689746f3608f6fc90d602eccc3c", func := "stockade/stockadelaw05.GraphNext", spec := "graphNext", inPlace := ["slices.overlaps[int]"], unfollowed := true, recurses := true, named := ["stockade/insn.sizes"], apart := false, laid := [("stockade/insn.sizes", laid_stockade_insn_sizes)] }
def GraphNextSaid : Prop := graphNextRow.holds Tryd.pinned (OpenSpec.ofChange graphNextSpec)

/-- ITS FALSE NEIGHBOUR: 'it returns false'. Refute it at one input. -/
def graphNextWrong : ChangeSpec := { name := "graphNext", fn := fun _ => fun
  | [d1, d2] => { results := [.lit (.bool false)], args := [d1, d2] }
  | _ => none }
def GraphNextWrongFalsely : Prop := graphNextRow.holds Tryd.pinned (OpenSpec.ofChange graphNextWrong)

/-- 'stockadelaw05.GraphOrders': WHATEVER THE INPUT: true; the input reads as it did. -/
def graphOrdersSpec : ChangeSpec := { name := "graphOrders", fn := fun _ => fun
  | [d] => { results := [.lit (.bool true)], args := [d] }
  | _ => none }
def graphOrdersRow : OpenClaim := { program := "ytkjcjlegokdpdaadoor", sum := "81cee13f5d55a08b1e333cafe747ddfda3e23689746f3608f6fc90d602eccc3c", func := "stockade/stockadelaw05.GraphOrders", spec := "graphOrders", inPlace := ["slices.overlaps[int]"], unfollowed := true, recurses := true, named := ["stockade/insn.sizes"], apart := false, laid := [("stockade/insn.sizes", laid_stockade_insn_sizes)] }
def GraphOrdersSaid : Prop := graphOrdersRow.holds Tryd.pinned (OpenSpec.ofChange graphOrdersSpec)

/-- ITS FALSE NEIGHBOUR: 'it returns false'. Refute it at one input. -/
def graphOrdersWrong : ChangeSpec := { name := "graphOrders", fn := fun _ => fun
  | [d] => { results := [.lit (.bool false)], args := [d] }
  | _ => none }
def GraphOrdersWrongFalsely : Prop := graphOrdersRow.holds Tryd.pinned (OpenSpec.ofChange graphOrdersWrong)

/-- 'stockadelaw05.GraphBlind': WHATEVER THE INPUT: true; the input reads as it did. -/
def graphBlindSpec : ChangeSpec := { name := "graphBlind", fn := fun _ => fun
  | [d1, d2, d3] => { results := [.lit (.bool true)], args := [d1, d2, d3] }
  | _ => none }
def graphBlindRow : OpenClaim := { program := "ytkjcjlegokdpdaadoor", sum := "81cee13f5d55a08b1e333cafe747ddfda3e23689746f3608f6fc90d602eccc3c", func := "stockade/stockadelaw05.GraphBlind", spec := "graphBlind", inPlace := ["slices.overlaps[int]"], unfollowed := true, recurses := true, named := ["stockade/insn.sizes"], apart := false, laid := [("stockade/insn.sizes", laid_stockade_insn_sizes)] }
def GraphBlindSaid : Prop := graphBlindRow.holds Tryd.pinned (OpenSpec.ofChange graphBlindSpec)

/-- ITS FALSE NEIGHBOUR: 'it returns false'. Refute it at one input. -/
def graphBlindWrong : ChangeSpec := { name := "graphBlind", fn := fun _ => fun
  | [d1, d2, d3] => { results := [.lit (.bool false)], args := [d1, d2, d3] }
  | _ => none }
def GraphBlindWrongFalsely : Prop := graphBlindRow.holds Tryd.pinned (OpenSpec.ofChange graphBlindWrong)

/-- 'stockadelaw05.GraphReached': WHATEVER THE INPUT: true; the input reads as it did. -/
def graphReachedSpec : ChangeSpec := { name := "graphReached", fn := fun _ => fun
  | [d] => { results := [.lit (.bool true)], args := [d] }
  | _ => none }
def graphReachedRow : OpenClaim := { program := "ytkjcjlegokdpdaadoor", sum := "81cee13f5d55a08b1e333cafe747ddfda3e23689746f3608f6fc90d602eccc3c", func := "stockade/stockadelaw05.GraphReached", spec := "graphReached", inPlace := ["slices.overlaps[int]"], unfollowed := true, recurses := true, named := ["stockade/insn.sizes"], apart := false, laid := [("stockade/insn.sizes", laid_stockade_insn_sizes)] }
def GraphReachedSaid : Prop := graphReachedRow.holds Tryd.pinned (OpenSpec.ofChange graphReachedSpec)

/-- ITS FALSE NEIGHBOUR: 'it returns false'. Refute it at one input. -/
def graphReachedWrong : ChangeSpec := { name := "graphReached", fn := fun _ => fun
  | [d] => { results := [.lit (.bool false)], args := [d] }
  | _ => none }
def GraphReachedWrongFalsely : Prop := graphReachedRow.holds Tryd.pinned (OpenSpec.ofChange graphReachedWrong)

/-- 'stockadelaw05.GraphLeast': WHATEVER THE INPUT: true; the input reads as it did. -/
def graphLeastSpec : ChangeSpec := { name := "graphLeast", fn := fun _ => fun
  | [d] => { results := [.lit (.bool true)], args := [d] }
  | _ => none }
def graphLeastRow : OpenClaim := { program := "ytkjcjlegokdpdaadoor", sum := "81cee13f5d55a08b1e333cafe747ddfda3e23689746f3608f6fc90d602eccc3c", func := "stockade/stockadelaw05.GraphLeast", spec := "graphLeast", inPlace := ["slices.overlaps[int]"], unfollowed := true, recurses := true, named := ["stockade/insn.sizes"], apart := false, laid := [("stockade/insn.sizes", laid_stockade_insn_sizes)] }
def GraphLeastSaid : Prop := graphLeastRow.holds Tryd.pinned (OpenSpec.ofChange graphLeastSpec)

/-- ITS FALSE NEIGHBOUR: 'it returns false'. Refute it at one input. -/
def graphLeastWrong : ChangeSpec := { name := "graphLeast", fn := fun _ => fun
  | [d] => { results := [.lit (.bool false)], args := [d] }
  | _ => none }
def GraphLeastWrongFalsely : Prop := graphLeastRow.holds Tryd.pinned (OpenSpec.ofChange graphLeastWrong)

/-- 'stockadelaw05.GraphWays': WHATEVER THE INPUT: true; the input reads as it did. -/
def graphWaysSpec : ChangeSpec := { name := "graphWays", fn := fun _ => fun
  | [d] => { results := [.lit (.bool true)], args := [d] }
  | _ => none }
def graphWaysRow : OpenClaim := { program := "ytkjcjlegokdpdaadoor", sum := "81cee13f5d55a08b1e333cafe747ddfda3e23689746f3608f6fc90d602eccc3c", func := "stockade/stockadelaw05.GraphWays", spec := "graphWays", inPlace := ["slices.overlaps[int]"], unfollowed := true, recurses := true, named := ["stockade/insn.sizes"], apart := false, laid := [("stockade/insn.sizes", laid_stockade_insn_sizes)] }
def GraphWaysSaid : Prop := graphWaysRow.holds Tryd.pinned (OpenSpec.ofChange graphWaysSpec)

/-- ITS FALSE NEIGHBOUR: 'it returns false'. Refute it at one input. -/
def graphWaysWrong : ChangeSpec := { name := "graphWays", fn := fun _ => fun
  | [d] => { results := [.lit (.bool false)], args := [d] }
  | _ => none }
def GraphWaysWrongFalsely : Prop := graphWaysRow.holds Tryd.pinned (OpenSpec.ofChange graphWaysWrong)

/-- 'stockadelaw05.GraphKnown': WHATEVER THE INPUT: true; the input reads as it did. -/
def graphKnownSpec : ChangeSpec := { name := "graphKnown", fn := fun _ => fun
  | [] => { results := [.lit (.bool true)], args := [] }
  | _ => none }
def graphKnownRow : OpenClaim := { program := "ytkjcjlegokdpdaadoor", sum := "81cee13f5d55a08b1e333cafe747ddfda3e23689746f3608f6fc90d602eccc3c", func := "stockade/stockadelaw05.GraphKnown", spec := "graphKnown", inPlace := ["slices.overlaps[int]"], unfollowed := true, recurses := true, named := ["stockade/insn.sizes"], apart := false, laid := [("stockade/insn.sizes", laid_stockade_insn_sizes)] }
def GraphKnownSaid : Prop := graphKnownRow.holds Tryd.pinned (OpenSpec.ofChange graphKnownSpec)

/-- ITS FALSE NEIGHBOUR: 'it returns false'. Refute it at one input. -/
def graphKnownWrong : ChangeSpec := { name := "graphKnown", fn := fun _ => fun
  | [] => { results := [.lit (.bool false)], args := [] }
  | _ => none }
def GraphKnownWrongFalsely : Prop := graphKnownRow.holds Tryd.pinned (OpenSpec.ofChange graphKnownWrong)

/- THE SECOND FORM. 'bulk': how many values and letters a reading holds, each counted each time it is reached (what is shared counts as often as it is met; a slice's spare places count too). A statement '..UptoSaid' is the law's where the arguments, and the package variables that the reading takes, are together of bulk at most 1048576: NARROWER than '..Said'. Prove '..Said' where nothing that the law and all that it calls make is longer than what came in: it says more and counts as full. Else prove '..UptoSaid'. A law counts once. -/
mutual
def uptoBulk {H : Type} : DataW H → Nat
  | .lit (.string bytes) => bytes.length + 1
  | .lit _ => 1
  | .nil => 1
  | .ptr d => uptoBulk d + 1
  | .slice elems spare => uptoBulkAll elems + uptoBulkAll spare + 1
  | .agg parts => uptoBulkAll parts + 1
  | .iface _ d => uptoBulk d + 1
  | .map entries => uptoBulkEntries entries + 1
  | .held _ => 1
def uptoBulkAll {H : Type} : List (DataW H) → Nat
  | [] => 0
  | d :: r => uptoBulk d + uptoBulkAll r
def uptoBulkEntries {H : Type} : List (Lit × DataW H) → Nat
  | [] => 0
  | x :: r => uptoBulkEntry x + uptoBulkEntries r
def uptoBulkEntry {H : Type} : Lit × DataW H → Nat
  | (.string bytes, d) => bytes.length + uptoBulk d + 1
  | (_, d) => uptoBulk d + 1
 end
def uptoSmall : (H : Type) → List (DataW H) → Bool := fun _ ds => decide (uptoBulkAll ds ≤ 1048576)
def OpenSpec.upto (s : _root_.Go.ChangeSpec) : _root_.Go.OpenSpec := { _root_.Go.OpenSpec.ofChange s with cond := some uptoSmall }

/-- 'stockadelaw05.GraphNext', WHERE WHAT IT READS IS OF BULK AT MOST 1048576: true; the input reads as it did. -/
def graphNextUptoRow : OpenClaim := { program := "ytkjcjlegokdpdaadoor", sum := "81cee13f5d55a08b1e333cafe747ddfda3e23689746f3608f6fc90d602eccc3c", func := "stockade/stockadelaw05.GraphNext", spec := "graphNext", inPlace := ["slices.overlaps[int]"], unfollowed := true, recurses := true, named := ["stockade/insn.sizes"], apart := false, laid := [("stockade/insn.sizes", laid_stockade_insn_sizes)], narrowed := true }
def GraphNextUptoSaid : Prop := graphNextUptoRow.holds Tryd.pinned (OpenSpec.upto graphNextSpec)

/-- 'stockadelaw05.GraphOrders', WHERE WHAT IT READS IS OF BULK AT MOST 1048576: true; the input reads as it did. -/
def graphOrdersUptoRow : OpenClaim := { program := "ytkjcjlegokdpdaadoor", sum := "81cee13f5d55a08b1e333cafe747ddfda3e23689746f3608f6fc90d602eccc3c", func := "stockade/stockadelaw05.GraphOrders", spec := "graphOrders", inPlace := ["slices.overlaps[int]"], unfollowed := true, recurses := true, named := ["stockade/insn.sizes"], apart := false, laid := [("stockade/insn.sizes", laid_stockade_insn_sizes)], narrowed := true }
def GraphOrdersUptoSaid : Prop := graphOrdersUptoRow.holds Tryd.pinned (OpenSpec.upto graphOrdersSpec)

/-- 'stockadelaw05.GraphBlind', WHERE WHAT IT READS IS OF BULK AT MOST 1048576: true; the input reads as it did. -/
def graphBlindUptoRow : OpenClaim := { program := "ytkjcjlegokdpdaadoor", sum := "81cee13f5d55a08b1e333cafe747ddfda3e23689746f3608f6fc90d602eccc3c", func := "stockade/stockadelaw05.GraphBlind", spec := "graphBlind", inPlace := ["slices.overlaps[int]"], unfollowed := true, recurses := true, named := ["stockade/insn.sizes"], apart := false, laid := [("stockade/insn.sizes", laid_stockade_insn_sizes)], narrowed := true }
def GraphBlindUptoSaid : Prop := graphBlindUptoRow.holds Tryd.pinned (OpenSpec.upto graphBlindSpec)

/-- 'stockadelaw05.GraphReached', WHERE WHAT IT READS IS OF BULK AT MOST 1048576: true; the input reads as it did. -/
def graphReachedUptoRow : OpenClaim := { program := "ytkjcjlegokdpdaadoor", sum := "81cee13f5d55a08b1e333cafe747ddfda3e23689746f3608f6fc90d602eccc3c", func := "stockade/stockadelaw05.GraphReached", spec := "graphReached", inPlace := ["slices.overlaps[int]"], unfollowed := true, recurses := true, named := ["stockade/insn.sizes"], apart := false, laid := [("stockade/insn.sizes", laid_stockade_insn_sizes)], narrowed := true }
def GraphReachedUptoSaid : Prop := graphReachedUptoRow.holds Tryd.pinned (OpenSpec.upto graphReachedSpec)

/-- 'stockadelaw05.GraphLeast', WHERE WHAT IT READS IS OF BULK AT MOST 1048576: true; the input reads as it did. -/
def graphLeastUptoRow : OpenClaim := { program := "ytkjcjlegokdpdaadoor", sum := "81cee13f5d55a08b1e333cafe747ddfda3e23689746f3608f6fc90d602eccc3c", func := "stockade/stockadelaw05.GraphLeast", spec := "graphLeast", inPlace := ["slices.overlaps[int]"], unfollowed := true, recurses := true, named := ["stockade/insn.sizes"], apart := false, laid := [("stockade/insn.sizes", laid_stockade_insn_sizes)], narrowed := true }
def GraphLeastUptoSaid : Prop := graphLeastUptoRow.holds Tryd.pinned (OpenSpec.upto graphLeastSpec)

/-- 'stockadelaw05.GraphWays', WHERE WHAT IT READS IS OF BULK AT MOST 1048576: true; the input reads as it did. -/
def graphWaysUptoRow : OpenClaim := { program := "ytkjcjlegokdpdaadoor", sum := "81cee13f5d55a08b1e333cafe747ddfda3e23689746f3608f6fc90d602eccc3c", func := "stockade/stockadelaw05.GraphWays", spec := "graphWays", inPlace := ["slices.overlaps[int]"], unfollowed := true, recurses := true, named := ["stockade/insn.sizes"], apart := false, laid := [("stockade/insn.sizes", laid_stockade_insn_sizes)], narrowed := true }
def GraphWaysUptoSaid : Prop := graphWaysUptoRow.holds Tryd.pinned (OpenSpec.upto graphWaysSpec)

/-- 'stockadelaw05.GraphKnown', WHERE WHAT IT READS IS OF BULK AT MOST 1048576: true; the input reads as it did. -/
def graphKnownUptoRow : OpenClaim := { program := "ytkjcjlegokdpdaadoor", sum := "81cee13f5d55a08b1e333cafe747ddfda3e23689746f3608f6fc90d602eccc3c", func := "stockade/stockadelaw05.GraphKnown", spec := "graphKnown", inPlace := ["slices.overlaps[int]"], unfollowed := true, recurses := true, named := ["stockade/insn.sizes"], apart := false, laid := [("stockade/insn.sizes", laid_stockade_insn_sizes)], narrowed := true }
def GraphKnownUptoSaid : Prop := graphKnownUptoRow.holds Tryd.pinned (OpenSpec.upto graphKnownSpec)

end Rows
end Go.Proofs.YtkjcjlegokdpdaaDoor
