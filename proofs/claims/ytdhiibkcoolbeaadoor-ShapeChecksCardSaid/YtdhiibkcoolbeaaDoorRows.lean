/-
  NARROWER THAN 'FOR EVERY INPUT', by the rows' own cells (each row's printed sentence says how): ShapeChecks: laid · ShapeStarts: laid · ShapeGoes: laid · ShapeAhead: laid · ShapeMore: laid · ShapeJumps: laid · ShapeKnown: laid.
  DERIVED. THE GIVEN ROWS OF THIS SEAT. 7 by the template 'for every input the law returns true; each argument reads behind the call as it read before'; 0 by the template 'total and deterministic' (their statements: YtdhiibkcoolbeaaDoorTotals.lean).
  GIVEN WITH THE SEED: the statements are not yours to turn. If you find one false, say at which input.
  Laid BY PROGRAM, IN A SANDBOX (cutbox-rows.mjs): the forced cells as the released guide's own fill.sh prints them over the translation d4cb0ba273961e8a… (all of the seat's roots in one cut). By AI agents, Wed Nov 11 2026. No macro, syntax, notation, axiom, sorry.
-/
import Derived.Test.YtdhiibkcoolbeaaDoorChecked
import GoSem.Claim
import GoSem.ClaimJoined
import GoSem.ClaimMapViews
import Derived.JoinedTies
import Derived.KernelRfl
namespace Go.Proofs.YtdhiibkcoolbeaaDoor
/- THE CELL 'sum', in the pinned program and in every row, IS THE sha256 OF THE DUMP (.gsa) THAT YtdhiibkcoolbeaaDoorProg.lean LOADS. Nothing in Lean hashes anything: it is a label: what it is worth is what the hold of that sum in a sandbox is worth. -/
noncomputable def Tryd.pinned : Pinned := { name := "ytdhiibkcoolbeaadoor", sum := "d4cb0ba273961e8ad5e0ab5e3997fd9c8ede0e3fbd769a941ed9b4c4bcab7cb3", checked := Tryd.checked }
namespace Rows
def none {H : Type} : Left H := { results := [], args := [] }

/- WHAT THE LISTED PACKAGE-LEVEL VARIABLES READ AS WHEN THE CALL BEGINS. Each datum BY PROGRAM (the guide's laid-datum.mjs) off the statement by which the dump's own 'gosem.cut.vars' lays the variable. In a bare row this is a premise. The card (YtdhiibkcoolbeaaDoorCards.lean) ties it to the program's text. -/
def laid_stockade_insn_sizes {H : Type} : DataW H := .agg [.lit (.int .i64 4), .lit (.int .i64 2), .lit (.int .i64 1), .lit (.int .i64 8)]

/-- 'stockadelaw04.ShapeChecks': WHATEVER THE INPUT: true; the input reads as it did. -/
def shapeChecksSpec : ChangeSpec := { name := "shapeChecks", fn := fun _ => fun
  | [d] => { results := [.lit (.bool true)], args := [d] }
  | _ => none }
def shapeChecksRow : OpenClaim := { program := "ytdhiibkcoolbeaadoor", sum := "d4cb0ba273961e8ad5e0ab5e3997fd9c8ede0e3fbd769a941ed9b4c4bcab7cb3", func := "stockade/stockadelaw04.ShapeChecks", spec := "shapeChecks", unfollowed := true, recurses := true, named := ["stockade/insn.sizes"], apart := false, laid := [("stockade/insn.sizes", laid_stockade_insn_sizes)] }
def ShapeChecksSaid : Prop := shapeChecksRow.holds Tryd.pinned (OpenSpec.ofChange shapeChecksSpec)

/-- ITS FALSE NEIGHBOUR: 'it returns false'. Refute it at one input. -/
def shapeChecksWrong : ChangeSpec := { name := "shapeChecks", fn := fun _ => fun
  | [d] => { results := [.lit (.bool false)], args := [d] }
  | _ => none }
def ShapeChecksWrongFalsely : Prop := shapeChecksRow.holds Tryd.pinned (OpenSpec.ofChange shapeChecksWrong)

/-- 'stockadelaw04.ShapeStarts': WHATEVER THE INPUT: true; the input reads as it did. -/
def shapeStartsSpec : ChangeSpec := { name := "shapeStarts", fn := fun _ => fun
  | [d1, d2, d3] => { results := [.lit (.bool true)], args := [d1, d2, d3] }
  | _ => none }
def shapeStartsRow : OpenClaim := { program := "ytdhiibkcoolbeaadoor", sum := "d4cb0ba273961e8ad5e0ab5e3997fd9c8ede0e3fbd769a941ed9b4c4bcab7cb3", func := "stockade/stockadelaw04.ShapeStarts", spec := "shapeStarts", unfollowed := true, recurses := true, named := ["stockade/insn.sizes"], apart := false, laid := [("stockade/insn.sizes", laid_stockade_insn_sizes)] }
def ShapeStartsSaid : Prop := shapeStartsRow.holds Tryd.pinned (OpenSpec.ofChange shapeStartsSpec)

/-- ITS FALSE NEIGHBOUR: 'it returns false'. Refute it at one input. -/
def shapeStartsWrong : ChangeSpec := { name := "shapeStarts", fn := fun _ => fun
  | [d1, d2, d3] => { results := [.lit (.bool false)], args := [d1, d2, d3] }
  | _ => none }
def ShapeStartsWrongFalsely : Prop := shapeStartsRow.holds Tryd.pinned (OpenSpec.ofChange shapeStartsWrong)

/-- 'stockadelaw04.ShapeGoes': WHATEVER THE INPUT: true; the input reads as it did. -/
def shapeGoesSpec : ChangeSpec := { name := "shapeGoes", fn := fun _ => fun
  | [d] => { results := [.lit (.bool true)], args := [d] }
  | _ => none }
def shapeGoesRow : OpenClaim := { program := "ytdhiibkcoolbeaadoor", sum := "d4cb0ba273961e8ad5e0ab5e3997fd9c8ede0e3fbd769a941ed9b4c4bcab7cb3", func := "stockade/stockadelaw04.ShapeGoes", spec := "shapeGoes", unfollowed := true, recurses := true, named := ["stockade/insn.sizes"], apart := false, laid := [("stockade/insn.sizes", laid_stockade_insn_sizes)] }
def ShapeGoesSaid : Prop := shapeGoesRow.holds Tryd.pinned (OpenSpec.ofChange shapeGoesSpec)

/-- ITS FALSE NEIGHBOUR: 'it returns false'. Refute it at one input. -/
def shapeGoesWrong : ChangeSpec := { name := "shapeGoes", fn := fun _ => fun
  | [d] => { results := [.lit (.bool false)], args := [d] }
  | _ => none }
def ShapeGoesWrongFalsely : Prop := shapeGoesRow.holds Tryd.pinned (OpenSpec.ofChange shapeGoesWrong)

/-- 'stockadelaw04.ShapeAhead': WHATEVER THE INPUT: true; the input reads as it did. -/
def shapeAheadSpec : ChangeSpec := { name := "shapeAhead", fn := fun _ => fun
  | [d1, d2] => { results := [.lit (.bool true)], args := [d1, d2] }
  | _ => none }
def shapeAheadRow : OpenClaim := { program := "ytdhiibkcoolbeaadoor", sum := "d4cb0ba273961e8ad5e0ab5e3997fd9c8ede0e3fbd769a941ed9b4c4bcab7cb3", func := "stockade/stockadelaw04.ShapeAhead", spec := "shapeAhead", unfollowed := true, recurses := true, named := ["stockade/insn.sizes"], apart := false, laid := [("stockade/insn.sizes", laid_stockade_insn_sizes)] }
def ShapeAheadSaid : Prop := shapeAheadRow.holds Tryd.pinned (OpenSpec.ofChange shapeAheadSpec)

/-- ITS FALSE NEIGHBOUR: 'it returns false'. Refute it at one input. -/
def shapeAheadWrong : ChangeSpec := { name := "shapeAhead", fn := fun _ => fun
  | [d1, d2] => { results := [.lit (.bool false)], args := [d1, d2] }
  | _ => none }
def ShapeAheadWrongFalsely : Prop := shapeAheadRow.holds Tryd.pinned (OpenSpec.ofChange shapeAheadWrong)

/-- 'stockadelaw04.ShapeMore': WHATEVER THE INPUT: true; the input reads as it did. -/
def shapeMoreSpec : ChangeSpec := { name := "shapeMore", fn := fun _ => fun
  | [d1, d2] => { results := [.lit (.bool true)], args := [d1, d2] }
  | _ => none }
def shapeMoreRow : OpenClaim := { program := "ytdhiibkcoolbeaadoor", sum := "d4cb0ba273961e8ad5e0ab5e3997fd9c8ede0e3fbd769a941ed9b4c4bcab7cb3", func := "stockade/stockadelaw04.ShapeMore", spec := "shapeMore", unfollowed := true, recurses := true, named := ["stockade/insn.sizes"], apart := false, laid := [("stockade/insn.sizes", laid_stockade_insn_sizes)] }
def ShapeMoreSaid : Prop := shapeMoreRow.holds Tryd.pinned (OpenSpec.ofChange shapeMoreSpec)

/-- ITS FALSE NEIGHBOUR: 'it returns false'. Refute it at one input. -/
def shapeMoreWrong : ChangeSpec := { name := "shapeMore", fn := fun _ => fun
  | [d1, d2] => { results := [.lit (.bool false)], args := [d1, d2] }
  | _ => none }
def ShapeMoreWrongFalsely : Prop := shapeMoreRow.holds Tryd.pinned (OpenSpec.ofChange shapeMoreWrong)

/-- 'stockadelaw04.ShapeJumps': WHATEVER THE INPUT: true; the input reads as it did. -/
def shapeJumpsSpec : ChangeSpec := { name := "shapeJumps", fn := fun _ => fun
  | [d] => { results := [.lit (.bool true)], args := [d] }
  | _ => none }
def shapeJumpsRow : OpenClaim := { program := "ytdhiibkcoolbeaadoor", sum := "d4cb0ba273961e8ad5e0ab5e3997fd9c8ede0e3fbd769a941ed9b4c4bcab7cb3", func := "stockade/stockadelaw04.ShapeJumps", spec := "shapeJumps", unfollowed := true, recurses := true, named := ["stockade/insn.sizes"], apart := false, laid := [("stockade/insn.sizes", laid_stockade_insn_sizes)] }
def ShapeJumpsSaid : Prop := shapeJumpsRow.holds Tryd.pinned (OpenSpec.ofChange shapeJumpsSpec)

/-- ITS FALSE NEIGHBOUR: 'it returns false'. Refute it at one input. -/
def shapeJumpsWrong : ChangeSpec := { name := "shapeJumps", fn := fun _ => fun
  | [d] => { results := [.lit (.bool false)], args := [d] }
  | _ => none }
def ShapeJumpsWrongFalsely : Prop := shapeJumpsRow.holds Tryd.pinned (OpenSpec.ofChange shapeJumpsWrong)

/-- 'stockadelaw04.ShapeKnown': WHATEVER THE INPUT: true; the input reads as it did. -/
def shapeKnownSpec : ChangeSpec := { name := "shapeKnown", fn := fun _ => fun
  | [] => { results := [.lit (.bool true)], args := [] }
  | _ => none }
def shapeKnownRow : OpenClaim := { program := "ytdhiibkcoolbeaadoor", sum := "d4cb0ba273961e8ad5e0ab5e3997fd9c8ede0e3fbd769a941ed9b4c4bcab7cb3", func := "stockade/stockadelaw04.ShapeKnown", spec := "shapeKnown", unfollowed := true, recurses := true, named := ["stockade/insn.sizes"], apart := false, laid := [("stockade/insn.sizes", laid_stockade_insn_sizes)] }
def ShapeKnownSaid : Prop := shapeKnownRow.holds Tryd.pinned (OpenSpec.ofChange shapeKnownSpec)

/-- ITS FALSE NEIGHBOUR: 'it returns false'. Refute it at one input. -/
def shapeKnownWrong : ChangeSpec := { name := "shapeKnown", fn := fun _ => fun
  | [] => { results := [.lit (.bool false)], args := [] }
  | _ => none }
def ShapeKnownWrongFalsely : Prop := shapeKnownRow.holds Tryd.pinned (OpenSpec.ofChange shapeKnownWrong)

/- THE SECOND FORM. 'bulk': how many values and letters a reading holds, each counted each time it is reached (what is shared counts as often as it is met; a slice's spare places count too). A statement '..UptoSaid' is the law's where the arguments, and the package variables that the reading takes, are together of bulk at most 1048576: NARROWER than '..Said'. Prove '..Said' where nothing that the law and all that it calls make is longer than what came in: it says more and counts as full. Else prove '..UptoSaid'. A law counts once. -/
mutual
def uptoBulk {H : Type} : DataW H → Nat
  | .lit (.string bytes) => bytes.length + 1
  | .lit _ => 1
  | .nil => 1
  | .ptr d => uptoBulk d + 1
  | .slice elems spare => uptoBulkAll elems + uptoBulkAll spare + 1
  | .agg parts => uptoBulkAll parts + 1
  | .iface _ d => uptoBulk d + 1
  | .map entries => uptoBulkEntries entries + 1
  | .held _ => 1
def uptoBulkAll {H : Type} : List (DataW H) → Nat
  | [] => 0
  | d :: r => uptoBulk d + uptoBulkAll r
def uptoBulkEntries {H : Type} : List (Lit × DataW H) → Nat
  | [] => 0
  | x :: r => uptoBulkEntry x + uptoBulkEntries r
def uptoBulkEntry {H : Type} : Lit × DataW H → Nat
  | (.string bytes, d) => bytes.length + uptoBulk d + 1
  | (_, d) => uptoBulk d + 1
 end
def uptoSmall : (H : Type) → List (DataW H) → Bool := fun _ ds => decide (uptoBulkAll ds ≤ 1048576)
def OpenSpec.upto (s : _root_.Go.ChangeSpec) : _root_.Go.OpenSpec := { _root_.Go.OpenSpec.ofChange s with cond := some uptoSmall }

/-- 'stockadelaw04.ShapeChecks', WHERE WHAT IT READS IS OF BULK AT MOST 1048576: true; the input reads as it did. -/
def shapeChecksUptoRow : OpenClaim := { program := "ytdhiibkcoolbeaadoor", sum := "d4cb0ba273961e8ad5e0ab5e3997fd9c8ede0e3fbd769a941ed9b4c4bcab7cb3", func := "stockade/stockadelaw04.ShapeChecks", spec := "shapeChecks", unfollowed := true, recurses := true, named := ["stockade/insn.sizes"], apart := false, laid := [("stockade/insn.sizes", laid_stockade_insn_sizes)], narrowed := true }
def ShapeChecksUptoSaid : Prop := shapeChecksUptoRow.holds Tryd.pinned (OpenSpec.upto shapeChecksSpec)

/-- 'stockadelaw04.ShapeStarts', WHERE WHAT IT READS IS OF BULK AT MOST 1048576: true; the input reads as it did. -/
def shapeStartsUptoRow : OpenClaim := { program := "ytdhiibkcoolbeaadoor", sum := "d4cb0ba273961e8ad5e0ab5e3997fd9c8ede0e3fbd769a941ed9b4c4bcab7cb3", func := "stockade/stockadelaw04.ShapeStarts", spec := "shapeStarts", unfollowed := true, recurses := true, named := ["stockade/insn.sizes"], apart := false, laid := [("stockade/insn.sizes", laid_stockade_insn_sizes)], narrowed := true }
def ShapeStartsUptoSaid : Prop := shapeStartsUptoRow.holds Tryd.pinned (OpenSpec.upto shapeStartsSpec)

/-- 'stockadelaw04.ShapeGoes', WHERE WHAT IT READS IS OF BULK AT MOST 1048576: true; the input reads as it did. -/
def shapeGoesUptoRow : OpenClaim := { program := "ytdhiibkcoolbeaadoor", sum := "d4cb0ba273961e8ad5e0ab5e3997fd9c8ede0e3fbd769a941ed9b4c4bcab7cb3", func := "stockade/stockadelaw04.ShapeGoes", spec := "shapeGoes", unfollowed := true, recurses := true, named := ["stockade/insn.sizes"], apart := false, laid := [("stockade/insn.sizes", laid_stockade_insn_sizes)], narrowed := true }
def ShapeGoesUptoSaid : Prop := shapeGoesUptoRow.holds Tryd.pinned (OpenSpec.upto shapeGoesSpec)

/-- 'stockadelaw04.ShapeAhead', WHERE WHAT IT READS IS OF BULK AT MOST 1048576: true; the input reads as it did. -/
def shapeAheadUptoRow : OpenClaim := { program := "ytdhiibkcoolbeaadoor", sum := "d4cb0ba273961e8ad5e0ab5e3997fd9c8ede0e3fbd769a941ed9b4c4bcab7cb3", func := "stockade/stockadelaw04.ShapeAhead", spec := "shapeAhead", unfollowed := true, recurses := true, named := ["stockade/insn.sizes"], apart := false, laid := [("stockade/insn.sizes", laid_stockade_insn_sizes)], narrowed := true }
def ShapeAheadUptoSaid : Prop := shapeAheadUptoRow.holds Tryd.pinned (OpenSpec.upto shapeAheadSpec)

/-- 'stockadelaw04.ShapeMore', WHERE WHAT IT READS IS OF BULK AT MOST 1048576: true; the input reads as it did. -/
def shapeMoreUptoRow : OpenClaim := { program := "ytdhiibkcoolbeaadoor", sum := "d4cb0ba273961e8ad5e0ab5e3997fd9c8ede0e3fbd769a941ed9b4c4bcab7cb3", func := "stockade/stockadelaw04.ShapeMore", spec := "shapeMore", unfollowed := true, recurses := true, named := ["stockade/insn.sizes"], apart := false, laid := [("stockade/insn.sizes", laid_stockade_insn_sizes)], narrowed := true }
def ShapeMoreUptoSaid : Prop := shapeMoreUptoRow.holds Tryd.pinned (OpenSpec.upto shapeMoreSpec)

/-- 'stockadelaw04.ShapeJumps', WHERE WHAT IT READS IS OF BULK AT MOST 1048576: true; the input reads as it did. -/
def shapeJumpsUptoRow : OpenClaim := { program := "ytdhiibkcoolbeaadoor", sum := "d4cb0ba273961e8ad5e0ab5e3997fd9c8ede0e3fbd769a941ed9b4c4bcab7cb3", func := "stockade/stockadelaw04.ShapeJumps", spec := "shapeJumps", unfollowed := true, recurses := true, named := ["stockade/insn.sizes"], apart := false, laid := [("stockade/insn.sizes", laid_stockade_insn_sizes)], narrowed := true }
def ShapeJumpsUptoSaid : Prop := shapeJumpsUptoRow.holds Tryd.pinned (OpenSpec.upto shapeJumpsSpec)

/-- 'stockadelaw04.ShapeKnown', WHERE WHAT IT READS IS OF BULK AT MOST 1048576: true; the input reads as it did. -/
def shapeKnownUptoRow : OpenClaim := { program := "ytdhiibkcoolbeaadoor", sum := "d4cb0ba273961e8ad5e0ab5e3997fd9c8ede0e3fbd769a941ed9b4c4bcab7cb3", func := "stockade/stockadelaw04.ShapeKnown", spec := "shapeKnown", unfollowed := true, recurses := true, named := ["stockade/insn.sizes"], apart := false, laid := [("stockade/insn.sizes", laid_stockade_insn_sizes)], narrowed := true }
def ShapeKnownUptoSaid : Prop := shapeKnownUptoRow.holds Tryd.pinned (OpenSpec.upto shapeKnownSpec)

end Rows
end Go.Proofs.YtdhiibkcoolbeaaDoor
