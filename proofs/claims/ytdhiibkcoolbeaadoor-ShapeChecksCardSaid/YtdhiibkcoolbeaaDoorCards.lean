/-
  DERIVED. GIVEN WITH THE SEED: THE CARDS: each row of YtdhiibkcoolbeaaDoorRows.lean that lists a variable, with what it lists TIED to the program's text (the seventh form; the later family's looks); each row that meets fmt, with fmt's text TOLD by the authors' own Lean function (tested against real Go, not proved from fmt's source: count such statements apart). THE CARD IS WHAT COUNTS. Prove the row's statement (the work); the ties are given (YtdhiibkcoolbeaaDoorTie.lean); close each card by the builder's one call (the guide's Derived/Test/ToyasCard.lean, 'card_holds'). Laid BY PROGRAM, IN A SANDBOX (cutbox-door.mjs). By AI agents, Wed Nov 11 2026. No macro, syntax, notation, axiom, sorry.
-/
import Derived.Test.YtdhiibkcoolbeaaDoorRows
import GoSem.ClaimSeven
namespace Go.Proofs.YtdhiibkcoolbeaaDoor
namespace Rows

/-- THE TIED CARD OF 'stockadelaw04.ShapeChecks'. -/
def shapeChecksCard : Claim7 := { stood := { row := shapeChecksRow, standIns := [], harness := (true, "b0d84e0c5bdd0620c47adc35b090b750d634108caec3c2a8a03661c7008fefda"), looks := false }, kinds := [], alts := [], laidByText := true, laidKinds := [.data], laidTests := true, laidLooks := .later }
def ShapeChecksCardSaid : Prop := Claim7.holds Tryd.pinned (.plain (OpenSpec.ofChange shapeChecksSpec)) shapeChecksCard

/-- THE TIED CARD OF 'stockadelaw04.ShapeStarts'. -/
def shapeStartsCard : Claim7 := { stood := { row := shapeStartsRow, standIns := [], harness := (true, "b0d84e0c5bdd0620c47adc35b090b750d634108caec3c2a8a03661c7008fefda"), looks := false }, kinds := [], alts := [], laidByText := true, laidKinds := [.data], laidTests := true, laidLooks := .later }
def ShapeStartsCardSaid : Prop := Claim7.holds Tryd.pinned (.plain (OpenSpec.ofChange shapeStartsSpec)) shapeStartsCard

/-- THE TIED CARD OF 'stockadelaw04.ShapeGoes'. -/
def shapeGoesCard : Claim7 := { stood := { row := shapeGoesRow, standIns := [], harness := (true, "b0d84e0c5bdd0620c47adc35b090b750d634108caec3c2a8a03661c7008fefda"), looks := false }, kinds := [], alts := [], laidByText := true, laidKinds := [.data], laidTests := true, laidLooks := .later }
def ShapeGoesCardSaid : Prop := Claim7.holds Tryd.pinned (.plain (OpenSpec.ofChange shapeGoesSpec)) shapeGoesCard

/-- THE TIED CARD OF 'stockadelaw04.ShapeAhead'. -/
def shapeAheadCard : Claim7 := { stood := { row := shapeAheadRow, standIns := [], harness := (true, "b0d84e0c5bdd0620c47adc35b090b750d634108caec3c2a8a03661c7008fefda"), looks := false }, kinds := [], alts := [], laidByText := true, laidKinds := [.data], laidTests := true, laidLooks := .later }
def ShapeAheadCardSaid : Prop := Claim7.holds Tryd.pinned (.plain (OpenSpec.ofChange shapeAheadSpec)) shapeAheadCard

/-- THE TIED CARD OF 'stockadelaw04.ShapeMore'. -/
def shapeMoreCard : Claim7 := { stood := { row := shapeMoreRow, standIns := [], harness := (true, "b0d84e0c5bdd0620c47adc35b090b750d634108caec3c2a8a03661c7008fefda"), looks := false }, kinds := [], alts := [], laidByText := true, laidKinds := [.data], laidTests := true, laidLooks := .later }
def ShapeMoreCardSaid : Prop := Claim7.holds Tryd.pinned (.plain (OpenSpec.ofChange shapeMoreSpec)) shapeMoreCard

/-- THE TIED CARD OF 'stockadelaw04.ShapeJumps'. -/
def shapeJumpsCard : Claim7 := { stood := { row := shapeJumpsRow, standIns := [], harness := (true, "b0d84e0c5bdd0620c47adc35b090b750d634108caec3c2a8a03661c7008fefda"), looks := false }, kinds := [], alts := [], laidByText := true, laidKinds := [.data], laidTests := true, laidLooks := .later }
def ShapeJumpsCardSaid : Prop := Claim7.holds Tryd.pinned (.plain (OpenSpec.ofChange shapeJumpsSpec)) shapeJumpsCard

/-- THE TIED CARD OF 'stockadelaw04.ShapeKnown'. -/
def shapeKnownCard : Claim7 := { stood := { row := shapeKnownRow, standIns := [], harness := (true, "b0d84e0c5bdd0620c47adc35b090b750d634108caec3c2a8a03661c7008fefda"), looks := false }, kinds := [], alts := [], laidByText := true, laidKinds := [.data], laidTests := true, laidLooks := .later }
def ShapeKnownCardSaid : Prop := Claim7.holds Tryd.pinned (.plain (OpenSpec.ofChange shapeKnownSpec)) shapeKnownCard

/-- THE SECOND FORM's CARD OF 'stockadelaw04.ShapeChecks'. -/
def shapeChecksUptoCard : Claim7 := { stood := { row := shapeChecksUptoRow, standIns := [], harness := (true, "b0d84e0c5bdd0620c47adc35b090b750d634108caec3c2a8a03661c7008fefda"), looks := false }, kinds := [], alts := [], laidByText := true, laidKinds := [.data], laidTests := true, laidLooks := .later }
def ShapeChecksUptoCardSaid : Prop := Claim7.holds Tryd.pinned (.plain (OpenSpec.upto shapeChecksSpec)) shapeChecksUptoCard

/-- THE SECOND FORM's CARD OF 'stockadelaw04.ShapeStarts'. -/
def shapeStartsUptoCard : Claim7 := { stood := { row := shapeStartsUptoRow, standIns := [], harness := (true, "b0d84e0c5bdd0620c47adc35b090b750d634108caec3c2a8a03661c7008fefda"), looks := false }, kinds := [], alts := [], laidByText := true, laidKinds := [.data], laidTests := true, laidLooks := .later }
def ShapeStartsUptoCardSaid : Prop := Claim7.holds Tryd.pinned (.plain (OpenSpec.upto shapeStartsSpec)) shapeStartsUptoCard

/-- THE SECOND FORM's CARD OF 'stockadelaw04.ShapeGoes'. -/
def shapeGoesUptoCard : Claim7 := { stood := { row := shapeGoesUptoRow, standIns := [], harness := (true, "b0d84e0c5bdd0620c47adc35b090b750d634108caec3c2a8a03661c7008fefda"), looks := false }, kinds := [], alts := [], laidByText := true, laidKinds := [.data], laidTests := true, laidLooks := .later }
def ShapeGoesUptoCardSaid : Prop := Claim7.holds Tryd.pinned (.plain (OpenSpec.upto shapeGoesSpec)) shapeGoesUptoCard

/-- THE SECOND FORM's CARD OF 'stockadelaw04.ShapeAhead'. -/
def shapeAheadUptoCard : Claim7 := { stood := { row := shapeAheadUptoRow, standIns := [], harness := (true, "b0d84e0c5bdd0620c47adc35b090b750d634108caec3c2a8a03661c7008fefda"), looks := false }, kinds := [], alts := [], laidByText := true, laidKinds := [.data], laidTests := true, laidLooks := .later }
def ShapeAheadUptoCardSaid : Prop := Claim7.holds Tryd.pinned (.plain (OpenSpec.upto shapeAheadSpec)) shapeAheadUptoCard

/-- THE SECOND FORM's CARD OF 'stockadelaw04.ShapeMore'. -/
def shapeMoreUptoCard : Claim7 := { stood := { row := shapeMoreUptoRow, standIns := [], harness := (true, "b0d84e0c5bdd0620c47adc35b090b750d634108caec3c2a8a03661c7008fefda"), looks := false }, kinds := [], alts := [], laidByText := true, laidKinds := [.data], laidTests := true, laidLooks := .later }
def ShapeMoreUptoCardSaid : Prop := Claim7.holds Tryd.pinned (.plain (OpenSpec.upto shapeMoreSpec)) shapeMoreUptoCard

/-- THE SECOND FORM's CARD OF 'stockadelaw04.ShapeJumps'. -/
def shapeJumpsUptoCard : Claim7 := { stood := { row := shapeJumpsUptoRow, standIns := [], harness := (true, "b0d84e0c5bdd0620c47adc35b090b750d634108caec3c2a8a03661c7008fefda"), looks := false }, kinds := [], alts := [], laidByText := true, laidKinds := [.data], laidTests := true, laidLooks := .later }
def ShapeJumpsUptoCardSaid : Prop := Claim7.holds Tryd.pinned (.plain (OpenSpec.upto shapeJumpsSpec)) shapeJumpsUptoCard

/-- THE SECOND FORM's CARD OF 'stockadelaw04.ShapeKnown'. -/
def shapeKnownUptoCard : Claim7 := { stood := { row := shapeKnownUptoRow, standIns := [], harness := (true, "b0d84e0c5bdd0620c47adc35b090b750d634108caec3c2a8a03661c7008fefda"), looks := false }, kinds := [], alts := [], laidByText := true, laidKinds := [.data], laidTests := true, laidLooks := .later }
def ShapeKnownUptoCardSaid : Prop := Claim7.holds Tryd.pinned (.plain (OpenSpec.upto shapeKnownSpec)) shapeKnownUptoCard
end Rows
end Go.Proofs.YtdhiibkcoolbeaaDoor
