/-
  DERIVED. GIVEN WITH THE SEED: THE CARDS: each row of YtighficpbplkhaaDoorRows.lean that lists a variable, with what it lists TIED to the program's text (the seventh form; the later family's looks); each row that meets fmt, with fmt's text TOLD by the authors' own Lean function (tested against real Go, not proved from fmt's source: count such statements apart). THE CARD IS WHAT COUNTS. Prove the row's statement (the work); the ties are given (YtighficpbplkhaaDoorTie.lean); close each card by the builder's one call (the guide's Derived/Test/ToyasCard.lean, 'card_holds'). Laid BY PROGRAM, IN A SANDBOX (cutbox-door.mjs). By AI agents, Wed Nov 11 2026. No macro, syntax, notation, axiom, sorry.
-/
import Derived.Test.YtighficpbplkhaaDoorRows
import GoSem.ClaimSeven
namespace Go.Proofs.YtighficpbplkhaaDoor
namespace Rows

/-- THE TIED CARD OF 'stockadelaw18.RuleChecks'. -/
def ruleChecksCard : Claim7 := { stood := { row := ruleChecksRow, standIns := [], harness := (true, "75322cafbab7edf8fd9fad58dc6e7db59c58dbcebe05cd0439bcd2d6e8f2a0d6"), looks := true }, kinds := [], alts := [], laidByText := true, laidKinds := [.data, .data, .data, .data, .sentinel, .sentinel, .pinned], laidTests := true, laidLooks := .later }
def RuleChecksCardSaid : Prop := Claim7.holds Tryd.pinned (.plain (OpenSpec.ofChange ruleChecksSpec)) ruleChecksCard

/-- THE TIED CARD OF 'stockadelaw18.RuleJudges'. -/
def ruleJudgesCard : Claim7 := { stood := { row := ruleJudgesRow, standIns := [], harness := (true, "75322cafbab7edf8fd9fad58dc6e7db59c58dbcebe05cd0439bcd2d6e8f2a0d6"), looks := true }, kinds := [], alts := [], laidByText := true, laidKinds := [.data, .data, .data, .data, .sentinel, .sentinel, .pinned], laidTests := true, laidLooks := .later }
def RuleJudgesCardSaid : Prop := Claim7.holds Tryd.pinned (.plain (OpenSpec.ofChange ruleJudgesSpec)) ruleJudgesCard

/-- THE TIED CARD OF 'stockadelaw18.RuleParses'. -/
def ruleParsesCard : Claim7 := { stood := { row := ruleParsesRow, standIns := [], harness := (true, "75322cafbab7edf8fd9fad58dc6e7db59c58dbcebe05cd0439bcd2d6e8f2a0d6"), looks := true }, kinds := [], alts := [], laidByText := true, laidKinds := [.data, .data, .data, .data, .sentinel, .sentinel, .pinned], laidTests := true, laidLooks := .later }
def RuleParsesCardSaid : Prop := Claim7.holds Tryd.pinned (.plain (OpenSpec.ofChange ruleParsesSpec)) ruleParsesCard

/-- THE TIED CARD OF 'stockadelaw18.RuleFirst'. -/
def ruleFirstCard : Claim7 := { stood := { row := ruleFirstRow, standIns := [], harness := (true, "75322cafbab7edf8fd9fad58dc6e7db59c58dbcebe05cd0439bcd2d6e8f2a0d6"), looks := true }, kinds := [], alts := [], laidByText := true, laidKinds := [.data, .data, .data, .data, .sentinel, .sentinel, .pinned], laidTests := true, laidLooks := .later }
def RuleFirstCardSaid : Prop := Claim7.holds Tryd.pinned (.plain (OpenSpec.ofChange ruleFirstSpec)) ruleFirstCard

/-- THE TIED CARD OF 'stockadelaw18.RuleBack'. -/
def ruleBackCard : Claim7 := { stood := { row := ruleBackRow, standIns := [], harness := (true, "75322cafbab7edf8fd9fad58dc6e7db59c58dbcebe05cd0439bcd2d6e8f2a0d6"), looks := true }, kinds := [], alts := [], laidByText := true, laidKinds := [.data, .data, .data, .data, .sentinel, .sentinel, .pinned], laidTests := true, laidLooks := .later }
def RuleBackCardSaid : Prop := Claim7.holds Tryd.pinned (.plain (OpenSpec.ofChange ruleBackSpec)) ruleBackCard

/-- THE TIED CARD OF 'stockadelaw18.RuleNear'. -/
def ruleNearCard : Claim7 := { stood := { row := ruleNearRow, standIns := [], harness := (true, "75322cafbab7edf8fd9fad58dc6e7db59c58dbcebe05cd0439bcd2d6e8f2a0d6"), looks := true }, kinds := [], alts := [], laidByText := true, laidKinds := [.data, .data, .data, .data, .sentinel, .sentinel, .pinned], laidTests := true, laidLooks := .later }
def RuleNearCardSaid : Prop := Claim7.holds Tryd.pinned (.plain (OpenSpec.ofChange ruleNearSpec)) ruleNearCard

/-- THE TIED CARD OF 'stockadelaw18.RuleKnown'. -/
def ruleKnownCard : Claim7 := { stood := { row := ruleKnownRow, standIns := [], harness := (true, "75322cafbab7edf8fd9fad58dc6e7db59c58dbcebe05cd0439bcd2d6e8f2a0d6"), looks := true }, kinds := [], alts := [], laidByText := true, laidKinds := [.data, .data, .data, .data, .sentinel, .sentinel, .pinned], laidTests := true, laidLooks := .later }
def RuleKnownCardSaid : Prop := Claim7.holds Tryd.pinned (.plain (OpenSpec.ofChange ruleKnownSpec)) ruleKnownCard

/-- THE SECOND FORM's CARD OF 'stockadelaw18.RuleChecks'. -/
def ruleChecksUptoCard : Claim7 := { stood := { row := ruleChecksUptoRow, standIns := [], harness := (true, "75322cafbab7edf8fd9fad58dc6e7db59c58dbcebe05cd0439bcd2d6e8f2a0d6"), looks := true }, kinds := [], alts := [], laidByText := true, laidKinds := [.data, .data, .data, .data, .sentinel, .sentinel, .pinned], laidTests := true, laidLooks := .later }
def RuleChecksUptoCardSaid : Prop := Claim7.holds Tryd.pinned (.plain (OpenSpec.upto ruleChecksSpec)) ruleChecksUptoCard

/-- THE SECOND FORM's CARD OF 'stockadelaw18.RuleJudges'. -/
def ruleJudgesUptoCard : Claim7 := { stood := { row := ruleJudgesUptoRow, standIns := [], harness := (true, "75322cafbab7edf8fd9fad58dc6e7db59c58dbcebe05cd0439bcd2d6e8f2a0d6"), looks := true }, kinds := [], alts := [], laidByText := true, laidKinds := [.data, .data, .data, .data, .sentinel, .sentinel, .pinned], laidTests := true, laidLooks := .later }
def RuleJudgesUptoCardSaid : Prop := Claim7.holds Tryd.pinned (.plain (OpenSpec.upto ruleJudgesSpec)) ruleJudgesUptoCard

/-- THE SECOND FORM's CARD OF 'stockadelaw18.RuleParses'. -/
def ruleParsesUptoCard : Claim7 := { stood := { row := ruleParsesUptoRow, standIns := [], harness := (true, "75322cafbab7edf8fd9fad58dc6e7db59c58dbcebe05cd0439bcd2d6e8f2a0d6"), looks := true }, kinds := [], alts := [], laidByText := true, laidKinds := [.data, .data, .data, .data, .sentinel, .sentinel, .pinned], laidTests := true, laidLooks := .later }
def RuleParsesUptoCardSaid : Prop := Claim7.holds Tryd.pinned (.plain (OpenSpec.upto ruleParsesSpec)) ruleParsesUptoCard

/-- THE SECOND FORM's CARD OF 'stockadelaw18.RuleFirst'. -/
def ruleFirstUptoCard : Claim7 := { stood := { row := ruleFirstUptoRow, standIns := [], harness := (true, "75322cafbab7edf8fd9fad58dc6e7db59c58dbcebe05cd0439bcd2d6e8f2a0d6"), looks := true }, kinds := [], alts := [], laidByText := true, laidKinds := [.data, .data, .data, .data, .sentinel, .sentinel, .pinned], laidTests := true, laidLooks := .later }
def RuleFirstUptoCardSaid : Prop := Claim7.holds Tryd.pinned (.plain (OpenSpec.upto ruleFirstSpec)) ruleFirstUptoCard

/-- THE SECOND FORM's CARD OF 'stockadelaw18.RuleBack'. -/
def ruleBackUptoCard : Claim7 := { stood := { row := ruleBackUptoRow, standIns := [], harness := (true, "75322cafbab7edf8fd9fad58dc6e7db59c58dbcebe05cd0439bcd2d6e8f2a0d6"), looks := true }, kinds := [], alts := [], laidByText := true, laidKinds := [.data, .data, .data, .data, .sentinel, .sentinel, .pinned], laidTests := true, laidLooks := .later }
def RuleBackUptoCardSaid : Prop := Claim7.holds Tryd.pinned (.plain (OpenSpec.upto ruleBackSpec)) ruleBackUptoCard

/-- THE SECOND FORM's CARD OF 'stockadelaw18.RuleNear'. -/
def ruleNearUptoCard : Claim7 := { stood := { row := ruleNearUptoRow, standIns := [], harness := (true, "75322cafbab7edf8fd9fad58dc6e7db59c58dbcebe05cd0439bcd2d6e8f2a0d6"), looks := true }, kinds := [], alts := [], laidByText := true, laidKinds := [.data, .data, .data, .data, .sentinel, .sentinel, .pinned], laidTests := true, laidLooks := .later }
def RuleNearUptoCardSaid : Prop := Claim7.holds Tryd.pinned (.plain (OpenSpec.upto ruleNearSpec)) ruleNearUptoCard

/-- THE SECOND FORM's CARD OF 'stockadelaw18.RuleKnown'. -/
def ruleKnownUptoCard : Claim7 := { stood := { row := ruleKnownUptoRow, standIns := [], harness := (true, "75322cafbab7edf8fd9fad58dc6e7db59c58dbcebe05cd0439bcd2d6e8f2a0d6"), looks := true }, kinds := [], alts := [], laidByText := true, laidKinds := [.data, .data, .data, .data, .sentinel, .sentinel, .pinned], laidTests := true, laidLooks := .later }
def RuleKnownUptoCardSaid : Prop := Claim7.holds Tryd.pinned (.plain (OpenSpec.upto ruleKnownSpec)) ruleKnownUptoCard
end Rows
end Go.Proofs.YtighficpbplkhaaDoor
