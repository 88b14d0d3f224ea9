/-
  DERIVED. GIVEN WITH THE SEED: THE CARDS: each row of YtnmmhkkmejbckaaGreatDoorRows.lean that lists a variable, with what it lists TIED to the program's text (the seventh form; the later family's looks); each row that meets fmt, with fmt's text TOLD by the authors' own Lean function (tested against real Go, not proved from fmt's source: count such statements apart). THE CARD IS WHAT COUNTS. Prove the row's statement (the work); the ties are given (YtnmmhkkmejbckaaGreatDoorTie.lean); close each card by the builder's one call (the guide's Derived/Test/ToyasCard.lean, 'card_holds'). Laid BY PROGRAM, IN A SANDBOX (cutbox-door.mjs). By AI agents, Wed Nov 11 2026. No macro, syntax, notation, axiom, sorry.
-/
import Derived.Test.YtnmmhkkmejbckaaGreatDoorRows
import GoSem.ClaimSeven
namespace Go.Proofs.YtnmmhkkmejbckaaGreatDoor
namespace Rows

/-- THE TIED CARD OF 'dipworkslaw07.WatchTells'. -/
def watchTellsCard : Claim7 := { stood := { row := watchTellsRow, standIns := [], harness := (true, "f0c0b3a4ea5fff6e3cd008fa8594ddb4a527ab63b86db590aaa79044d8a0dcec"), looks := true }, kinds := [], alts := [], laidByText := true, laidKinds := [.data, .data], laidTests := true, laidLooks := .later }
def WatchTellsCardSaid : Prop := Claim7.holds Tryz.pinned (.plain (OpenSpec.ofChange watchTellsSpec)) watchTellsCard

/-- THE TIED CARD OF 'dipworkslaw07.WatchWays'. -/
def watchWaysCard : Claim7 := { stood := { row := watchWaysRow, standIns := [], harness := (true, "f0c0b3a4ea5fff6e3cd008fa8594ddb4a527ab63b86db590aaa79044d8a0dcec"), looks := true }, kinds := [], alts := [], laidByText := true, laidKinds := [.data, .data], laidTests := true, laidLooks := .later }
def WatchWaysCardSaid : Prop := Claim7.holds Tryz.pinned (.plain (OpenSpec.ofChange watchWaysSpec)) watchWaysCard

/-- THE SECOND FORM's CARD OF 'dipworkslaw07.WatchTells'. -/
def watchTellsUptoCard : Claim7 := { stood := { row := watchTellsUptoRow, standIns := [], harness := (true, "f0c0b3a4ea5fff6e3cd008fa8594ddb4a527ab63b86db590aaa79044d8a0dcec"), looks := true }, kinds := [], alts := [], laidByText := true, laidKinds := [.data, .data], laidTests := true, laidLooks := .later }
def WatchTellsUptoCardSaid : Prop := Claim7.holds Tryz.pinned (.plain (OpenSpec.upto watchTellsSpec)) watchTellsUptoCard

/-- THE SECOND FORM's CARD OF 'dipworkslaw07.WatchWays'. -/
def watchWaysUptoCard : Claim7 := { stood := { row := watchWaysUptoRow, standIns := [], harness := (true, "f0c0b3a4ea5fff6e3cd008fa8594ddb4a527ab63b86db590aaa79044d8a0dcec"), looks := true }, kinds := [], alts := [], laidByText := true, laidKinds := [.data, .data], laidTests := true, laidLooks := .later }
def WatchWaysUptoCardSaid : Prop := Claim7.holds Tryz.pinned (.plain (OpenSpec.upto watchWaysSpec)) watchWaysUptoCard
end Rows
end Go.Proofs.YtnmmhkkmejbckaaGreatDoor
