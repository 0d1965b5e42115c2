/-
  DERIVED. GIVEN WITH THE SEED: THE CARDS: each row of YtkojjjdeacdabaaDoorRows.lean that lists a variable, with what it lists TIED to the program's text (the seventh form; the later family's looks); each row that meets fmt, with fmt's text TOLD by the authors' own Lean function (tested against real Go, not proved from fmt's source: count such statements apart). THE CARD IS WHAT COUNTS. Prove the row's statement (the work); the ties are given (YtkojjjdeacdabaaDoorTie.lean); close each card by the builder's one call (the guide's Derived/Test/ToyasCard.lean, 'card_holds'). Laid BY PROGRAM, IN A SANDBOX (cutbox-door.mjs). By AI agents, Wed Nov 11 2026. No macro, syntax, notation, axiom, sorry.
-/
import Derived.Test.YtkojjjdeacdabaaDoorRows
import GoSem.ClaimSeven
namespace Go.Proofs.YtkojjjdeacdabaaDoor
namespace Rows

/-- THE TIED CARD OF 'stockadelaw02.InsnOf'. -/
def insnOfCard : Claim7 := { stood := { row := insnOfRow, standIns := [], harness := (true, "b6e17da3c567efb43bc858ef4b2f5e743fb6ee43301f49caf48d6b7a5a1560b4"), looks := false }, kinds := [], alts := [], laidByText := true, laidKinds := [.data], laidTests := true, laidLooks := .later }
def InsnOfCardSaid : Prop := Claim7.holds Tryd.pinned (.plain (OpenSpec.ofChange insnOfSpec)) insnOfCard

/-- THE TIED CARD OF 'stockadelaw02.InsnReads'. -/
def insnReadsCard : Claim7 := { stood := { row := insnReadsRow, standIns := [], harness := (true, "b6e17da3c567efb43bc858ef4b2f5e743fb6ee43301f49caf48d6b7a5a1560b4"), looks := false }, kinds := [], alts := [], laidByText := true, laidKinds := [.data], laidTests := true, laidLooks := .later }
def InsnReadsCardSaid : Prop := Claim7.holds Tryd.pinned (.plain (OpenSpec.ofChange insnReadsSpec)) insnReadsCard

/-- THE TIED CARD OF 'stockadelaw02.InsnBytes'. -/
def insnBytesCard : Claim7 := { stood := { row := insnBytesRow, standIns := [], harness := (true, "b6e17da3c567efb43bc858ef4b2f5e743fb6ee43301f49caf48d6b7a5a1560b4"), looks := false }, kinds := [], alts := [], laidByText := true, laidKinds := [.data], laidTests := true, laidLooks := .later }
def InsnBytesCardSaid : Prop := Claim7.holds Tryd.pinned (.plain (OpenSpec.ofChange insnBytesSpec)) insnBytesCard

/-- THE TIED CARD OF 'stockadelaw02.InsnBack'. -/
def insnBackCard : Claim7 := { stood := { row := insnBackRow, standIns := [], harness := (true, "b6e17da3c567efb43bc858ef4b2f5e743fb6ee43301f49caf48d6b7a5a1560b4"), looks := false }, kinds := [], alts := [], laidByText := true, laidKinds := [.data], laidTests := true, laidLooks := .later }
def InsnBackCardSaid : Prop := Claim7.holds Tryd.pinned (.plain (OpenSpec.ofChange insnBackSpec)) insnBackCard

/-- THE TIED CARD OF 'stockadelaw02.InsnMakes'. -/
def insnMakesCard : Claim7 := { stood := { row := insnMakesRow, standIns := [], harness := (true, "b6e17da3c567efb43bc858ef4b2f5e743fb6ee43301f49caf48d6b7a5a1560b4"), looks := false }, kinds := [], alts := [], laidByText := true, laidKinds := [.data], laidTests := true, laidLooks := .later }
def InsnMakesCardSaid : Prop := Claim7.holds Tryd.pinned (.plain (OpenSpec.ofChange insnMakesSpec)) insnMakesCard

/-- THE TIED CARD OF 'stockadelaw02.InsnOnce'. -/
def insnOnceCard : Claim7 := { stood := { row := insnOnceRow, standIns := [], harness := (true, "b6e17da3c567efb43bc858ef4b2f5e743fb6ee43301f49caf48d6b7a5a1560b4"), looks := false }, kinds := [], alts := [], laidByText := true, laidKinds := [.data], laidTests := true, laidLooks := .later }
def InsnOnceCardSaid : Prop := Claim7.holds Tryd.pinned (.plain (OpenSpec.ofChange insnOnceSpec)) insnOnceCard

/-- THE TIED CARD OF 'stockadelaw02.InsnUses'. -/
def insnUsesCard : Claim7 := { stood := { row := insnUsesRow, standIns := [], harness := (true, "b6e17da3c567efb43bc858ef4b2f5e743fb6ee43301f49caf48d6b7a5a1560b4"), looks := false }, kinds := [], alts := [], laidByText := true, laidKinds := [.data], laidTests := true, laidLooks := .later }
def InsnUsesCardSaid : Prop := Claim7.holds Tryd.pinned (.plain (OpenSpec.ofChange insnUsesSpec)) insnUsesCard

/-- THE TIED CARD OF 'stockadelaw02.InsnNear'. -/
def insnNearCard : Claim7 := { stood := { row := insnNearRow, standIns := [], harness := (true, "b6e17da3c567efb43bc858ef4b2f5e743fb6ee43301f49caf48d6b7a5a1560b4"), looks := false }, kinds := [], alts := [], laidByText := true, laidKinds := [.data], laidTests := true, laidLooks := .later }
def InsnNearCardSaid : Prop := Claim7.holds Tryd.pinned (.plain (OpenSpec.ofChange insnNearSpec)) insnNearCard

/-- THE TIED CARD OF 'stockadelaw02.InsnKnown'. -/
def insnKnownCard : Claim7 := { stood := { row := insnKnownRow, standIns := [], harness := (true, "b6e17da3c567efb43bc858ef4b2f5e743fb6ee43301f49caf48d6b7a5a1560b4"), looks := false }, kinds := [], alts := [], laidByText := true, laidKinds := [.data], laidTests := true, laidLooks := .later }
def InsnKnownCardSaid : Prop := Claim7.holds Tryd.pinned (.plain (OpenSpec.ofChange insnKnownSpec)) insnKnownCard

/-- THE SECOND FORM's CARD OF 'stockadelaw02.InsnOf'. -/
def insnOfUptoCard : Claim7 := { stood := { row := insnOfUptoRow, standIns := [], harness := (true, "b6e17da3c567efb43bc858ef4b2f5e743fb6ee43301f49caf48d6b7a5a1560b4"), looks := false }, kinds := [], alts := [], laidByText := true, laidKinds := [.data], laidTests := true, laidLooks := .later }
def InsnOfUptoCardSaid : Prop := Claim7.holds Tryd.pinned (.plain (OpenSpec.upto insnOfSpec)) insnOfUptoCard

/-- THE SECOND FORM's CARD OF 'stockadelaw02.InsnReads'. -/
def insnReadsUptoCard : Claim7 := { stood := { row := insnReadsUptoRow, standIns := [], harness := (true, "b6e17da3c567efb43bc858ef4b2f5e743fb6ee43301f49caf48d6b7a5a1560b4"), looks := false }, kinds := [], alts := [], laidByText := true, laidKinds := [.data], laidTests := true, laidLooks := .later }
def InsnReadsUptoCardSaid : Prop := Claim7.holds Tryd.pinned (.plain (OpenSpec.upto insnReadsSpec)) insnReadsUptoCard

/-- THE SECOND FORM's CARD OF 'stockadelaw02.InsnBytes'. -/
def insnBytesUptoCard : Claim7 := { stood := { row := insnBytesUptoRow, standIns := [], harness := (true, "b6e17da3c567efb43bc858ef4b2f5e743fb6ee43301f49caf48d6b7a5a1560b4"), looks := false }, kinds := [], alts := [], laidByText := true, laidKinds := [.data], laidTests := true, laidLooks := .later }
def InsnBytesUptoCardSaid : Prop := Claim7.holds Tryd.pinned (.plain (OpenSpec.upto insnBytesSpec)) insnBytesUptoCard

/-- THE SECOND FORM's CARD OF 'stockadelaw02.InsnBack'. -/
def insnBackUptoCard : Claim7 := { stood := { row := insnBackUptoRow, standIns := [], harness := (true, "b6e17da3c567efb43bc858ef4b2f5e743fb6ee43301f49caf48d6b7a5a1560b4"), looks := false }, kinds := [], alts := [], laidByText := true, laidKinds := [.data], laidTests := true, laidLooks := .later }
def InsnBackUptoCardSaid : Prop := Claim7.holds Tryd.pinned (.plain (OpenSpec.upto insnBackSpec)) insnBackUptoCard

/-- THE SECOND FORM's CARD OF 'stockadelaw02.InsnMakes'. -/
def insnMakesUptoCard : Claim7 := { stood := { row := insnMakesUptoRow, standIns := [], harness := (true, "b6e17da3c567efb43bc858ef4b2f5e743fb6ee43301f49caf48d6b7a5a1560b4"), looks := false }, kinds := [], alts := [], laidByText := true, laidKinds := [.data], laidTests := true, laidLooks := .later }
def InsnMakesUptoCardSaid : Prop := Claim7.holds Tryd.pinned (.plain (OpenSpec.upto insnMakesSpec)) insnMakesUptoCard

/-- THE SECOND FORM's CARD OF 'stockadelaw02.InsnOnce'. -/
def insnOnceUptoCard : Claim7 := { stood := { row := insnOnceUptoRow, standIns := [], harness := (true, "b6e17da3c567efb43bc858ef4b2f5e743fb6ee43301f49caf48d6b7a5a1560b4"), looks := false }, kinds := [], alts := [], laidByText := true, laidKinds := [.data], laidTests := true, laidLooks := .later }
def InsnOnceUptoCardSaid : Prop := Claim7.holds Tryd.pinned (.plain (OpenSpec.upto insnOnceSpec)) insnOnceUptoCard

/-- THE SECOND FORM's CARD OF 'stockadelaw02.InsnUses'. -/
def insnUsesUptoCard : Claim7 := { stood := { row := insnUsesUptoRow, standIns := [], harness := (true, "b6e17da3c567efb43bc858ef4b2f5e743fb6ee43301f49caf48d6b7a5a1560b4"), looks := false }, kinds := [], alts := [], laidByText := true, laidKinds := [.data], laidTests := true, laidLooks := .later }
def InsnUsesUptoCardSaid : Prop := Claim7.holds Tryd.pinned (.plain (OpenSpec.upto insnUsesSpec)) insnUsesUptoCard

/-- THE SECOND FORM's CARD OF 'stockadelaw02.InsnNear'. -/
def insnNearUptoCard : Claim7 := { stood := { row := insnNearUptoRow, standIns := [], harness := (true, "b6e17da3c567efb43bc858ef4b2f5e743fb6ee43301f49caf48d6b7a5a1560b4"), looks := false }, kinds := [], alts := [], laidByText := true, laidKinds := [.data], laidTests := true, laidLooks := .later }
def InsnNearUptoCardSaid : Prop := Claim7.holds Tryd.pinned (.plain (OpenSpec.upto insnNearSpec)) insnNearUptoCard

/-- THE SECOND FORM's CARD OF 'stockadelaw02.InsnKnown'. -/
def insnKnownUptoCard : Claim7 := { stood := { row := insnKnownUptoRow, standIns := [], harness := (true, "b6e17da3c567efb43bc858ef4b2f5e743fb6ee43301f49caf48d6b7a5a1560b4"), looks := false }, kinds := [], alts := [], laidByText := true, laidKinds := [.data], laidTests := true, laidLooks := .later }
def InsnKnownUptoCardSaid : Prop := Claim7.holds Tryd.pinned (.plain (OpenSpec.upto insnKnownSpec)) insnKnownUptoCard
end Rows
end Go.Proofs.YtkojjjdeacdabaaDoor
