/-
  NARROWER THAN 'FOR EVERY INPUT', by the rows' own cells (each row's printed sentence says how): InsnOf: laid · InsnReads: laid · InsnBytes: laid · InsnBack: laid · InsnMakes: laid · InsnOnce: laid · InsnUses: laid · InsnNear: laid · InsnKnown: laid.
  DERIVED. THE GIVEN ROWS OF THIS SEAT. 9 by the template 'for every input the law returns true; each argument reads behind the call as it read before'; 0 by the template 'total and deterministic' (their statements: YtkojjjdeacdabaaDoorTotals.lean).
  GIVEN WITH THE SEED: the statements are not yours to turn. If you find one false, say at which input.
  Laid BY PROGRAM, IN A SANDBOX (cutbox-rows.mjs): the forced cells as the released guide's own fill.sh prints them over the translation 108b67c3b97bf2ac… (all of the seat's roots in one cut). By AI agents, Wed Nov 11 2026. No macro, syntax, notation, axiom, sorry.
-/
import Derived.Test.YtkojjjdeacdabaaDoorChecked
import GoSem.Claim
import GoSem.ClaimJoined
import GoSem.ClaimMapViews
import Derived.JoinedTies
import Derived.KernelRfl
namespace Go.Proofs.YtkojjjdeacdabaaDoor
/- THE CELL 'sum', in the pinned program and in every row, IS THE sha256 OF THE DUMP (.gsa) THAT YtkojjjdeacdabaaDoorProg.lean LOADS. Nothing in Lean hashes anything: it is a label: what it is worth is what the hold of that sum in a sandbox is worth. -/
noncomputable def Tryd.pinned : Pinned := { name := "ytkojjjdeacdabaadoor", sum := "108b67c3b97bf2ac0ea86c08fd8691eb7effcb67e906e231582fdd7c3246bb7f", checked := Tryd.checked }
namespace Rows
def none {H : Type} : Left H := { results := [], args := [] }

/- WHAT THE LISTED PACKAGE-LEVEL VARIABLES READ AS WHEN THE CALL BEGINS. Each datum BY PROGRAM (the guide's laid-datum.mjs) off the statement by which the dump's own 'gosem.cut.vars' lays the variable. In a bare row this is a premise. The card (YtkojjjdeacdabaaDoorCards.lean) ties it to the program's text. -/
def laid_stockade_insn_sizes {H : Type} : DataW H := .agg [.lit (.int .i64 4), .lit (.int .i64 2), .lit (.int .i64 1), .lit (.int .i64 8)]

/-- 'stockadelaw02.InsnOf': WHATEVER THE INPUT: true; the input reads as it did. -/
def insnOfSpec : ChangeSpec := { name := "insnOf", fn := fun _ => fun
  | [d] => { results := [.lit (.bool true)], args := [d] }
  | _ => none }
def insnOfRow : OpenClaim := { program := "ytkojjjdeacdabaadoor", sum := "108b67c3b97bf2ac0ea86c08fd8691eb7effcb67e906e231582fdd7c3246bb7f", func := "stockade/stockadelaw02.InsnOf", spec := "insnOf", named := ["stockade/insn.sizes"], apart := false, laid := [("stockade/insn.sizes", laid_stockade_insn_sizes)] }
def InsnOfSaid : Prop := insnOfRow.holds Tryd.pinned (OpenSpec.ofChange insnOfSpec)

/-- ITS FALSE NEIGHBOUR: 'it returns false'. Refute it at one input. -/
def insnOfWrong : ChangeSpec := { name := "insnOf", fn := fun _ => fun
  | [d] => { results := [.lit (.bool false)], args := [d] }
  | _ => none }
def InsnOfWrongFalsely : Prop := insnOfRow.holds Tryd.pinned (OpenSpec.ofChange insnOfWrong)

/-- 'stockadelaw02.InsnReads': WHATEVER THE INPUT: true; the input reads as it did. -/
def insnReadsSpec : ChangeSpec := { name := "insnReads", fn := fun _ => fun
  | [d] => { results := [.lit (.bool true)], args := [d] }
  | _ => none }
def insnReadsRow : OpenClaim := { program := "ytkojjjdeacdabaadoor", sum := "108b67c3b97bf2ac0ea86c08fd8691eb7effcb67e906e231582fdd7c3246bb7f", func := "stockade/stockadelaw02.InsnReads", spec := "insnReads", named := ["stockade/insn.sizes"], apart := false, laid := [("stockade/insn.sizes", laid_stockade_insn_sizes)] }
def InsnReadsSaid : Prop := insnReadsRow.holds Tryd.pinned (OpenSpec.ofChange insnReadsSpec)

/-- ITS FALSE NEIGHBOUR: 'it returns false'. Refute it at one input. -/
def insnReadsWrong : ChangeSpec := { name := "insnReads", fn := fun _ => fun
  | [d] => { results := [.lit (.bool false)], args := [d] }
  | _ => none }
def InsnReadsWrongFalsely : Prop := insnReadsRow.holds Tryd.pinned (OpenSpec.ofChange insnReadsWrong)

/-- 'stockadelaw02.InsnBytes': WHATEVER THE INPUT: true; the input reads as it did. -/
def insnBytesSpec : ChangeSpec := { name := "insnBytes", fn := fun _ => fun
  | [d] => { results := [.lit (.bool true)], args := [d] }
  | _ => none }
def insnBytesRow : OpenClaim := { program := "ytkojjjdeacdabaadoor", sum := "108b67c3b97bf2ac0ea86c08fd8691eb7effcb67e906e231582fdd7c3246bb7f", func := "stockade/stockadelaw02.InsnBytes", spec := "insnBytes", named := ["stockade/insn.sizes"], apart := false, laid := [("stockade/insn.sizes", laid_stockade_insn_sizes)] }
def InsnBytesSaid : Prop := insnBytesRow.holds Tryd.pinned (OpenSpec.ofChange insnBytesSpec)

/-- ITS FALSE NEIGHBOUR: 'it returns false'. Refute it at one input. -/
def insnBytesWrong : ChangeSpec := { name := "insnBytes", fn := fun _ => fun
  | [d] => { results := [.lit (.bool false)], args := [d] }
  | _ => none }
def InsnBytesWrongFalsely : Prop := insnBytesRow.holds Tryd.pinned (OpenSpec.ofChange insnBytesWrong)

/-- 'stockadelaw02.InsnBack': WHATEVER THE INPUT: true; the input reads as it did. -/
def insnBackSpec : ChangeSpec := { name := "insnBack", fn := fun _ => fun
  | [d1, d2] => { results := [.lit (.bool true)], args := [d1, d2] }
  | _ => none }
def insnBackRow : OpenClaim := { program := "ytkojjjdeacdabaadoor", sum := "108b67c3b97bf2ac0ea86c08fd8691eb7effcb67e906e231582fdd7c3246bb7f", func := "stockade/stockadelaw02.InsnBack", spec := "insnBack", named := ["stockade/insn.sizes"], apart := false, laid := [("stockade/insn.sizes", laid_stockade_insn_sizes)] }
def InsnBackSaid : Prop := insnBackRow.holds Tryd.pinned (OpenSpec.ofChange insnBackSpec)

/-- ITS FALSE NEIGHBOUR: 'it returns false'. Refute it at one input. -/
def insnBackWrong : ChangeSpec := { name := "insnBack", fn := fun _ => fun
  | [d1, d2] => { results := [.lit (.bool false)], args := [d1, d2] }
  | _ => none }
def InsnBackWrongFalsely : Prop := insnBackRow.holds Tryd.pinned (OpenSpec.ofChange insnBackWrong)

/-- 'stockadelaw02.InsnMakes': WHATEVER THE INPUT: true; the input reads as it did. -/
def insnMakesSpec : ChangeSpec := { name := "insnMakes", fn := fun _ => fun
  | [d1, d2] => { results := [.lit (.bool true)], args := [d1, d2] }
  | _ => none }
def insnMakesRow : OpenClaim := { program := "ytkojjjdeacdabaadoor", sum := "108b67c3b97bf2ac0ea86c08fd8691eb7effcb67e906e231582fdd7c3246bb7f", func := "stockade/stockadelaw02.InsnMakes", spec := "insnMakes", named := ["stockade/insn.sizes"], apart := false, laid := [("stockade/insn.sizes", laid_stockade_insn_sizes)] }
def InsnMakesSaid : Prop := insnMakesRow.holds Tryd.pinned (OpenSpec.ofChange insnMakesSpec)

/-- ITS FALSE NEIGHBOUR: 'it returns false'. Refute it at one input. -/
def insnMakesWrong : ChangeSpec := { name := "insnMakes", fn := fun _ => fun
  | [d1, d2] => { results := [.lit (.bool false)], args := [d1, d2] }
  | _ => none }
def InsnMakesWrongFalsely : Prop := insnMakesRow.holds Tryd.pinned (OpenSpec.ofChange insnMakesWrong)

/-- 'stockadelaw02.InsnOnce': WHATEVER THE INPUT: true; the input reads as it did. -/
def insnOnceSpec : ChangeSpec := { name := "insnOnce", fn := fun _ => fun
  | [d1, d2, d3] => { results := [.lit (.bool true)], args := [d1, d2, d3] }
  | _ => none }
def insnOnceRow : OpenClaim := { program := "ytkojjjdeacdabaadoor", sum := "108b67c3b97bf2ac0ea86c08fd8691eb7effcb67e906e231582fdd7c3246bb7f", func := "stockade/stockadelaw02.InsnOnce", spec := "insnOnce", named := ["stockade/insn.sizes"], apart := false, laid := [("stockade/insn.sizes", laid_stockade_insn_sizes)] }
def InsnOnceSaid : Prop := insnOnceRow.holds Tryd.pinned (OpenSpec.ofChange insnOnceSpec)

/-- ITS FALSE NEIGHBOUR: 'it returns false'. Refute it at one input. -/
def insnOnceWrong : ChangeSpec := { name := "insnOnce", fn := fun _ => fun
  | [d1, d2, d3] => { results := [.lit (.bool false)], args := [d1, d2, d3] }
  | _ => none }
def InsnOnceWrongFalsely : Prop := insnOnceRow.holds Tryd.pinned (OpenSpec.ofChange insnOnceWrong)

/-- 'stockadelaw02.InsnUses': WHATEVER THE INPUT: true; the input reads as it did. -/
def insnUsesSpec : ChangeSpec := { name := "insnUses", fn := fun _ => fun
  | [d] => { results := [.lit (.bool true)], args := [d] }
  | _ => none }
def insnUsesRow : OpenClaim := { program := "ytkojjjdeacdabaadoor", sum := "108b67c3b97bf2ac0ea86c08fd8691eb7effcb67e906e231582fdd7c3246bb7f", func := "stockade/stockadelaw02.InsnUses", spec := "insnUses", named := ["stockade/insn.sizes"], apart := false, laid := [("stockade/insn.sizes", laid_stockade_insn_sizes)] }
def InsnUsesSaid : Prop := insnUsesRow.holds Tryd.pinned (OpenSpec.ofChange insnUsesSpec)

/-- ITS FALSE NEIGHBOUR: 'it returns false'. Refute it at one input. -/
def insnUsesWrong : ChangeSpec := { name := "insnUses", fn := fun _ => fun
  | [d] => { results := [.lit (.bool false)], args := [d] }
  | _ => none }
def InsnUsesWrongFalsely : Prop := insnUsesRow.holds Tryd.pinned (OpenSpec.ofChange insnUsesWrong)

/-- 'stockadelaw02.InsnNear': WHATEVER THE INPUT: true; the input reads as it did. -/
def insnNearSpec : ChangeSpec := { name := "insnNear", fn := fun _ => fun
  | [d1, d2, d3] => { results := [.lit (.bool true)], args := [d1, d2, d3] }
  | _ => none }
def insnNearRow : OpenClaim := { program := "ytkojjjdeacdabaadoor", sum := "108b67c3b97bf2ac0ea86c08fd8691eb7effcb67e906e231582fdd7c3246bb7f", func := "stockade/stockadelaw02.InsnNear", spec := "insnNear", named := ["stockade/insn.sizes"], apart := false, laid := [("stockade/insn.sizes", laid_stockade_insn_sizes)] }
def InsnNearSaid : Prop := insnNearRow.holds Tryd.pinned (OpenSpec.ofChange insnNearSpec)

/-- ITS FALSE NEIGHBOUR: 'it returns false'. Refute it at one input. -/
def insnNearWrong : ChangeSpec := { name := "insnNear", fn := fun _ => fun
  | [d1, d2, d3] => { results := [.lit (.bool false)], args := [d1, d2, d3] }
  | _ => none }
def InsnNearWrongFalsely : Prop := insnNearRow.holds Tryd.pinned (OpenSpec.ofChange insnNearWrong)

/-- 'stockadelaw02.InsnKnown': WHATEVER THE INPUT: true; the input reads as it did. -/
def insnKnownSpec : ChangeSpec := { name := "insnKnown", fn := fun _ => fun
  | [] => { results := [.lit (.bool true)], args := [] }
  | _ => none }
def insnKnownRow : OpenClaim := { program := "ytkojjjdeacdabaadoor", sum := "108b67c3b97bf2ac0ea86c08fd8691eb7effcb67e906e231582fdd7c3246bb7f", func := "stockade/stockadelaw02.InsnKnown", spec := "insnKnown", named := ["stockade/insn.sizes"], apart := false, laid := [("stockade/insn.sizes", laid_stockade_insn_sizes)] }
def InsnKnownSaid : Prop := insnKnownRow.holds Tryd.pinned (OpenSpec.ofChange insnKnownSpec)

/-- ITS FALSE NEIGHBOUR: 'it returns false'. Refute it at one input. -/
def insnKnownWrong : ChangeSpec := { name := "insnKnown", fn := fun _ => fun
  | [] => { results := [.lit (.bool false)], args := [] }
  | _ => none }
def InsnKnownWrongFalsely : Prop := insnKnownRow.holds Tryd.pinned (OpenSpec.ofChange insnKnownWrong)

/- THE SECOND FORM. 'bulk': how many values and letters a reading holds, each counted each time it is reached (what is shared counts as often as it is met; a slice's spare places count too). A statement '..UptoSaid' is the law's where the arguments, and the package variables that the reading takes, are together of bulk at most 1048576: NARROWER than '..Said'. Prove '..Said' where nothing that the law and all that it calls make is longer than what came in: it says more and counts as full. Else prove '..UptoSaid'. A law counts once. -/
mutual
def uptoBulk {H : Type} : DataW H → Nat
  | .lit (.string bytes) => bytes.length + 1
  | .lit _ => 1
  | .nil => 1
  | .ptr d => uptoBulk d + 1
  | .slice elems spare => uptoBulkAll elems + uptoBulkAll spare + 1
  | .agg parts => uptoBulkAll parts + 1
  | .iface _ d => uptoBulk d + 1
  | .map entries => uptoBulkEntries entries + 1
  | .held _ => 1
def uptoBulkAll {H : Type} : List (DataW H) → Nat
  | [] => 0
  | d :: r => uptoBulk d + uptoBulkAll r
def uptoBulkEntries {H : Type} : List (Lit × DataW H) → Nat
  | [] => 0
  | x :: r => uptoBulkEntry x + uptoBulkEntries r
def uptoBulkEntry {H : Type} : Lit × DataW H → Nat
  | (.string bytes, d) => bytes.length + uptoBulk d + 1
  | (_, d) => uptoBulk d + 1
 end
def uptoSmall : (H : Type) → List (DataW H) → Bool := fun _ ds => decide (uptoBulkAll ds ≤ 1048576)
def OpenSpec.upto (s : _root_.Go.ChangeSpec) : _root_.Go.OpenSpec := { _root_.Go.OpenSpec.ofChange s with cond := some uptoSmall }

/-- 'stockadelaw02.InsnOf', WHERE WHAT IT READS IS OF BULK AT MOST 1048576: true; the input reads as it did. -/
def insnOfUptoRow : OpenClaim := { program := "ytkojjjdeacdabaadoor", sum := "108b67c3b97bf2ac0ea86c08fd8691eb7effcb67e906e231582fdd7c3246bb7f", func := "stockade/stockadelaw02.InsnOf", spec := "insnOf", named := ["stockade/insn.sizes"], apart := false, laid := [("stockade/insn.sizes", laid_stockade_insn_sizes)], narrowed := true }
def InsnOfUptoSaid : Prop := insnOfUptoRow.holds Tryd.pinned (OpenSpec.upto insnOfSpec)

/-- 'stockadelaw02.InsnReads', WHERE WHAT IT READS IS OF BULK AT MOST 1048576: true; the input reads as it did. -/
def insnReadsUptoRow : OpenClaim := { program := "ytkojjjdeacdabaadoor", sum := "108b67c3b97bf2ac0ea86c08fd8691eb7effcb67e906e231582fdd7c3246bb7f", func := "stockade/stockadelaw02.InsnReads", spec := "insnReads", named := ["stockade/insn.sizes"], apart := false, laid := [("stockade/insn.sizes", laid_stockade_insn_sizes)], narrowed := true }
def InsnReadsUptoSaid : Prop := insnReadsUptoRow.holds Tryd.pinned (OpenSpec.upto insnReadsSpec)

/-- 'stockadelaw02.InsnBytes', WHERE WHAT IT READS IS OF BULK AT MOST 1048576: true; the input reads as it did. -/
def insnBytesUptoRow : OpenClaim := { program := "ytkojjjdeacdabaadoor", sum := "108b67c3b97bf2ac0ea86c08fd8691eb7effcb67e906e231582fdd7c3246bb7f", func := "stockade/stockadelaw02.InsnBytes", spec := "insnBytes", named := ["stockade/insn.sizes"], apart := false, laid := [("stockade/insn.sizes", laid_stockade_insn_sizes)], narrowed := true }
def InsnBytesUptoSaid : Prop := insnBytesUptoRow.holds Tryd.pinned (OpenSpec.upto insnBytesSpec)

/-- 'stockadelaw02.InsnBack', WHERE WHAT IT READS IS OF BULK AT MOST 1048576: true; the input reads as it did. -/
def insnBackUptoRow : OpenClaim := { program := "ytkojjjdeacdabaadoor", sum := "108b67c3b97bf2ac0ea86c08fd8691eb7effcb67e906e231582fdd7c3246bb7f", func := "stockade/stockadelaw02.InsnBack", spec := "insnBack", named := ["stockade/insn.sizes"], apart := false, laid := [("stockade/insn.sizes", laid_stockade_insn_sizes)], narrowed := true }
def InsnBackUptoSaid : Prop := insnBackUptoRow.holds Tryd.pinned (OpenSpec.upto insnBackSpec)

/-- 'stockadelaw02.InsnMakes', WHERE WHAT IT READS IS OF BULK AT MOST 1048576: true; the input reads as it did. -/
def insnMakesUptoRow : OpenClaim := { program := "ytkojjjdeacdabaadoor", sum := "108b67c3b97bf2ac0ea86c08fd8691eb7effcb67e906e231582fdd7c3246bb7f", func := "stockade/stockadelaw02.InsnMakes", spec := "insnMakes", named := ["stockade/insn.sizes"], apart := false, laid := [("stockade/insn.sizes", laid_stockade_insn_sizes)], narrowed := true }
def InsnMakesUptoSaid : Prop := insnMakesUptoRow.holds Tryd.pinned (OpenSpec.upto insnMakesSpec)

/-- 'stockadelaw02.InsnOnce', WHERE WHAT IT READS IS OF BULK AT MOST 1048576: true; the input reads as it did. -/
def insnOnceUptoRow : OpenClaim := { program := "ytkojjjdeacdabaadoor", sum := "108b67c3b97bf2ac0ea86c08fd8691eb7effcb67e906e231582fdd7c3246bb7f", func := "stockade/stockadelaw02.InsnOnce", spec := "insnOnce", named := ["stockade/insn.sizes"], apart := false, laid := [("stockade/insn.sizes", laid_stockade_insn_sizes)], narrowed := true }
def InsnOnceUptoSaid : Prop := insnOnceUptoRow.holds Tryd.pinned (OpenSpec.upto insnOnceSpec)

/-- 'stockadelaw02.InsnUses', WHERE WHAT IT READS IS OF BULK AT MOST 1048576: true; the input reads as it did. -/
def insnUsesUptoRow : OpenClaim := { program := "ytkojjjdeacdabaadoor", sum := "108b67c3b97bf2ac0ea86c08fd8691eb7effcb67e906e231582fdd7c3246bb7f", func := "stockade/stockadelaw02.InsnUses", spec := "insnUses", named := ["stockade/insn.sizes"], apart := false, laid := [("stockade/insn.sizes", laid_stockade_insn_sizes)], narrowed := true }
def InsnUsesUptoSaid : Prop := insnUsesUptoRow.holds Tryd.pinned (OpenSpec.upto insnUsesSpec)

/-- 'stockadelaw02.InsnNear', WHERE WHAT IT READS IS OF BULK AT MOST 1048576: true; the input reads as it did. -/
def insnNearUptoRow : OpenClaim := { program := "ytkojjjdeacdabaadoor", sum := "108b67c3b97bf2ac0ea86c08fd8691eb7effcb67e906e231582fdd7c3246bb7f", func := "stockade/stockadelaw02.InsnNear", spec := "insnNear", named := ["stockade/insn.sizes"], apart := false, laid := [("stockade/insn.sizes", laid_stockade_insn_sizes)], narrowed := true }
def InsnNearUptoSaid : Prop := insnNearUptoRow.holds Tryd.pinned (OpenSpec.upto insnNearSpec)

/-- 'stockadelaw02.InsnKnown', WHERE WHAT IT READS IS OF BULK AT MOST 1048576: true; the input reads as it did. -/
def insnKnownUptoRow : OpenClaim := { program := "ytkojjjdeacdabaadoor", sum := "108b67c3b97bf2ac0ea86c08fd8691eb7effcb67e906e231582fdd7c3246bb7f", func := "stockade/stockadelaw02.InsnKnown", spec := "insnKnown", named := ["stockade/insn.sizes"], apart := false, laid := [("stockade/insn.sizes", laid_stockade_insn_sizes)], narrowed := true }
def InsnKnownUptoSaid : Prop := insnKnownUptoRow.holds Tryd.pinned (OpenSpec.upto insnKnownSpec)

end Rows
end Go.Proofs.YtkojjjdeacdabaaDoor
