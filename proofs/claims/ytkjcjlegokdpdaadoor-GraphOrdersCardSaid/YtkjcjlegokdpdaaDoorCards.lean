/-
  DERIVED. GIVEN WITH THE SEED: THE CARDS: each row of YtkjcjlegokdpdaaDoorRows.lean that lists a variable, with what it lists TIED to the program's text (the seventh form; the later family's looks); each row that meets fmt, with fmt's text TOLD by the authors' own Lean function (tested against real Go, not proved from fmt's source: count such statements apart). THE CARD IS WHAT COUNTS. Prove the row's statement (the work); the ties are given (YtkjcjlegokdpdaaDoorTie.lean); close each card by the builder's one call (the guide's Derived/Test/ToyasCard.lean, 'card_holds'). Laid BY PROGRAM, IN A SANDBOX (cutbox-door.mjs). By AI agents, Wed Nov 11 2026. No macro, syntax, notation, axiom, sorry.
-/
import Derived.Test.YtkjcjlegokdpdaaDoorRows
import GoSem.ClaimSeven
namespace Go.Proofs.YtkjcjlegokdpdaaDoor
namespace Rows

/-- THE TIED CARD OF 'stockadelaw05.GraphNext'. -/
def graphNextCard : Claim7 := { stood := { row := graphNextRow, standIns := [], harness := (true, "81e6ebf257322b04c66beffd6c906750039e86ccc7690882ba62d12a5ecdc553"), looks := false }, kinds := [], alts := [], laidByText := true, laidKinds := [.data], laidTests := true, laidLooks := .later }
def GraphNextCardSaid : Prop := Claim7.holds Tryd.pinned (.plain (OpenSpec.ofChange graphNextSpec)) graphNextCard

/-- THE TIED CARD OF 'stockadelaw05.GraphOrders'. -/
def graphOrdersCard : Claim7 := { stood := { row := graphOrdersRow, standIns := [], harness := (true, "81e6ebf257322b04c66beffd6c906750039e86ccc7690882ba62d12a5ecdc553"), looks := false }, kinds := [], alts := [], laidByText := true, laidKinds := [.data], laidTests := true, laidLooks := .later }
def GraphOrdersCardSaid : Prop := Claim7.holds Tryd.pinned (.plain (OpenSpec.ofChange graphOrdersSpec)) graphOrdersCard

/-- THE TIED CARD OF 'stockadelaw05.GraphBlind'. -/
def graphBlindCard : Claim7 := { stood := { row := graphBlindRow, standIns := [], harness := (true, "81e6ebf257322b04c66beffd6c906750039e86ccc7690882ba62d12a5ecdc553"), looks := false }, kinds := [], alts := [], laidByText := true, laidKinds := [.data], laidTests := true, laidLooks := .later }
def GraphBlindCardSaid : Prop := Claim7.holds Tryd.pinned (.plain (OpenSpec.ofChange graphBlindSpec)) graphBlindCard

/-- THE TIED CARD OF 'stockadelaw05.GraphReached'. -/
def graphReachedCard : Claim7 := { stood := { row := graphReachedRow, standIns := [], harness := (true, "81e6ebf257322b04c66beffd6c906750039e86ccc7690882ba62d12a5ecdc553"), looks := false }, kinds := [], alts := [], laidByText := true, laidKinds := [.data], laidTests := true, laidLooks := .later }
def GraphReachedCardSaid : Prop := Claim7.holds Tryd.pinned (.plain (OpenSpec.ofChange graphReachedSpec)) graphReachedCard

/-- THE TIED CARD OF 'stockadelaw05.GraphLeast'. -/
def graphLeastCard : Claim7 := { stood := { row := graphLeastRow, standIns := [], harness := (true, "81e6ebf257322b04c66beffd6c906750039e86ccc7690882ba62d12a5ecdc553"), looks := false }, kinds := [], alts := [], laidByText := true, laidKinds := [.data], laidTests := true, laidLooks := .later }
def GraphLeastCardSaid : Prop := Claim7.holds Tryd.pinned (.plain (OpenSpec.ofChange graphLeastSpec)) graphLeastCard

/-- THE TIED CARD OF 'stockadelaw05.GraphWays'. -/
def graphWaysCard : Claim7 := { stood := { row := graphWaysRow, standIns := [], harness := (true, "81e6ebf257322b04c66beffd6c906750039e86ccc7690882ba62d12a5ecdc553"), looks := false }, kinds := [], alts := [], laidByText := true, laidKinds := [.data], laidTests := true, laidLooks := .later }
def GraphWaysCardSaid : Prop := Claim7.holds Tryd.pinned (.plain (OpenSpec.ofChange graphWaysSpec)) graphWaysCard

/-- THE TIED CARD OF 'stockadelaw05.GraphKnown'. -/
def graphKnownCard : Claim7 := { stood := { row := graphKnownRow, standIns := [], harness := (true, "81e6ebf257322b04c66beffd6c906750039e86ccc7690882ba62d12a5ecdc553"), looks := false }, kinds := [], alts := [], laidByText := true, laidKinds := [.data], laidTests := true, laidLooks := .later }
def GraphKnownCardSaid : Prop := Claim7.holds Tryd.pinned (.plain (OpenSpec.ofChange graphKnownSpec)) graphKnownCard

/-- THE SECOND FORM's CARD OF 'stockadelaw05.GraphNext'. -/
def graphNextUptoCard : Claim7 := { stood := { row := graphNextUptoRow, standIns := [], harness := (true, "81e6ebf257322b04c66beffd6c906750039e86ccc7690882ba62d12a5ecdc553"), looks := false }, kinds := [], alts := [], laidByText := true, laidKinds := [.data], laidTests := true, laidLooks := .later }
def GraphNextUptoCardSaid : Prop := Claim7.holds Tryd.pinned (.plain (OpenSpec.upto graphNextSpec)) graphNextUptoCard

/-- THE SECOND FORM's CARD OF 'stockadelaw05.GraphOrders'. -/
def graphOrdersUptoCard : Claim7 := { stood := { row := graphOrdersUptoRow, standIns := [], harness := (true, "81e6ebf257322b04c66beffd6c906750039e86ccc7690882ba62d12a5ecdc553"), looks := false }, kinds := [], alts := [], laidByText := true, laidKinds := [.data], laidTests := true, laidLooks := .later }
def GraphOrdersUptoCardSaid : Prop := Claim7.holds Tryd.pinned (.plain (OpenSpec.upto graphOrdersSpec)) graphOrdersUptoCard

/-- THE SECOND FORM's CARD OF 'stockadelaw05.GraphBlind'. -/
def graphBlindUptoCard : Claim7 := { stood := { row := graphBlindUptoRow, standIns := [], harness := (true, "81e6ebf257322b04c66beffd6c906750039e86ccc7690882ba62d12a5ecdc553"), looks := false }, kinds := [], alts := [], laidByText := true, laidKinds := [.data], laidTests := true, laidLooks := .later }
def GraphBlindUptoCardSaid : Prop := Claim7.holds Tryd.pinned (.plain (OpenSpec.upto graphBlindSpec)) graphBlindUptoCard

/-- THE SECOND FORM's CARD OF 'stockadelaw05.GraphReached'. -/
def graphReachedUptoCard : Claim7 := { stood := { row := graphReachedUptoRow, standIns := [], harness := (true, "81e6ebf257322b04c66beffd6c906750039e86ccc7690882ba62d12a5ecdc553"), looks := false }, kinds := [], alts := [], laidByText := true, laidKinds := [.data], laidTests := true, laidLooks := .later }
def GraphReachedUptoCardSaid : Prop := Claim7.holds Tryd.pinned (.plain (OpenSpec.upto graphReachedSpec)) graphReachedUptoCard

/-- THE SECOND FORM's CARD OF 'stockadelaw05.GraphLeast'. -/
def graphLeastUptoCard : Claim7 := { stood := { row := graphLeastUptoRow, standIns := [], harness := (true, "81e6ebf257322b04c66beffd6c906750039e86ccc7690882ba62d12a5ecdc553"), looks := false }, kinds := [], alts := [], laidByText := true, laidKinds := [.data], laidTests := true, laidLooks := .later }
def GraphLeastUptoCardSaid : Prop := Claim7.holds Tryd.pinned (.plain (OpenSpec.upto graphLeastSpec)) graphLeastUptoCard

/-- THE SECOND FORM's CARD OF 'stockadelaw05.GraphWays'. -/
def graphWaysUptoCard : Claim7 := { stood := { row := graphWaysUptoRow, standIns := [], harness := (true, "81e6ebf257322b04c66beffd6c906750039e86ccc7690882ba62d12a5ecdc553"), looks := false }, kinds := [], alts := [], laidByText := true, laidKinds := [.data], laidTests := true, laidLooks := .later }
def GraphWaysUptoCardSaid : Prop := Claim7.holds Tryd.pinned (.plain (OpenSpec.upto graphWaysSpec)) graphWaysUptoCard

/-- THE SECOND FORM's CARD OF 'stockadelaw05.GraphKnown'. -/
def graphKnownUptoCard : Claim7 := { stood := { row := graphKnownUptoRow, standIns := [], harness := (true, "81e6ebf257322b04c66beffd6c906750039e86ccc7690882ba62d12a5ecdc553"), looks := false }, kinds := [], alts := [], laidByText := true, laidKinds := [.data], laidTests := true, laidLooks := .later }
def GraphKnownUptoCardSaid : Prop := Claim7.holds Tryd.pinned (.plain (OpenSpec.upto graphKnownSpec)) graphKnownUptoCard
end Rows
end Go.Proofs.YtkjcjlegokdpdaaDoor
