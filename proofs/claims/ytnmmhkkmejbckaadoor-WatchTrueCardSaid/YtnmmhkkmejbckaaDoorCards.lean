/-
  DERIVED. GIVEN WITH THE SEED: THE CARDS: each row of YtnmmhkkmejbckaaDoorRows.lean that lists a variable, with what it lists TIED to the program's text (the seventh form; the later family's looks); each row that meets fmt, with fmt's text TOLD by the authors' own Lean function (tested against real Go, not proved from fmt's source: count such statements apart). THE CARD IS WHAT COUNTS. Prove the row's statement (the work); the ties are given (YtnmmhkkmejbckaaDoorTie.lean); close each card by the builder's one call (the guide's Derived/Test/ToyasCard.lean, 'card_holds'). Laid BY PROGRAM, IN A SANDBOX (cutbox-door.mjs). By AI agents, Wed Nov 11 2026. No macro, syntax, notation, axiom, sorry.
-/
import Derived.Test.YtnmmhkkmejbckaaDoorRows
import GoSem.ClaimSeven
namespace Go.Proofs.YtnmmhkkmejbckaaDoor
namespace Rows

/-- THE TIED CARD OF 'dipworkslaw07.WatchNames'. -/
def watchNamesCard : Claim7 := { stood := { row := watchNamesRow, standIns := [], harness := (true, "fed5dcce40824fc84ad3ac3bdab7d8e7d479230b14351e1ce1da0efb86dd08ef"), looks := true }, kinds := [], alts := [], laidByText := true, laidKinds := [.data, .data], laidTests := true, laidLooks := .later }
def WatchNamesCardSaid : Prop := Claim7.holds Tryd.pinned (.plain (OpenSpec.ofChange watchNamesSpec)) watchNamesCard

/-- THE TIED CARD OF 'dipworkslaw07.WatchTrue'. -/
def watchTrueCard : Claim7 := { stood := { row := watchTrueRow, standIns := [], harness := (true, "fed5dcce40824fc84ad3ac3bdab7d8e7d479230b14351e1ce1da0efb86dd08ef"), looks := true }, kinds := [], alts := [], laidByText := true, laidKinds := [.data, .data], laidTests := true, laidLooks := .later }
def WatchTrueCardSaid : Prop := Claim7.holds Tryd.pinned (.plain (OpenSpec.ofChange watchTrueSpec)) watchTrueCard

/-- THE TIED CARD OF 'dipworkslaw07.WatchShows'. -/
def watchShowsCard : Claim7 := { stood := { row := watchShowsRow, standIns := [], harness := (true, "fed5dcce40824fc84ad3ac3bdab7d8e7d479230b14351e1ce1da0efb86dd08ef"), looks := true }, kinds := [], alts := [], laidByText := true, laidKinds := [.data, .data], laidTests := true, laidLooks := .later }
def WatchShowsCardSaid : Prop := Claim7.holds Tryd.pinned (.plain (OpenSpec.ofChange watchShowsSpec)) watchShowsCard

/-- THE TIED CARD OF 'dipworkslaw07.WatchStopped'. -/
def watchStoppedCard : Claim7 := { stood := { row := watchStoppedRow, standIns := [], harness := (true, "fed5dcce40824fc84ad3ac3bdab7d8e7d479230b14351e1ce1da0efb86dd08ef"), looks := true }, kinds := [], alts := [], laidByText := true, laidKinds := [.data, .data], laidTests := true, laidLooks := .later }
def WatchStoppedCardSaid : Prop := Claim7.holds Tryd.pinned (.plain (OpenSpec.ofChange watchStoppedSpec)) watchStoppedCard

/-- THE TIED CARD OF 'dipworkslaw07.WatchCan'. -/
def watchCanCard : Claim7 := { stood := { row := watchCanRow, standIns := [], harness := (true, "fed5dcce40824fc84ad3ac3bdab7d8e7d479230b14351e1ce1da0efb86dd08ef"), looks := true }, kinds := [], alts := [], laidByText := true, laidKinds := [.data, .data], laidTests := true, laidLooks := .later }
def WatchCanCardSaid : Prop := Claim7.holds Tryd.pinned (.plain (OpenSpec.ofChange watchCanSpec)) watchCanCard

/-- THE TIED CARD OF 'dipworkslaw07.WatchClash'. -/
def watchClashCard : Claim7 := { stood := { row := watchClashRow, standIns := [], harness := (true, "fed5dcce40824fc84ad3ac3bdab7d8e7d479230b14351e1ce1da0efb86dd08ef"), looks := true }, kinds := [], alts := [], laidByText := true, laidKinds := [.data, .data], laidTests := true, laidLooks := .later }
def WatchClashCardSaid : Prop := Claim7.holds Tryd.pinned (.plain (OpenSpec.ofChange watchClashSpec)) watchClashCard

/-- THE TIED CARD OF 'dipworkslaw07.WatchMore'. -/
def watchMoreCard : Claim7 := { stood := { row := watchMoreRow, standIns := [], harness := (true, "fed5dcce40824fc84ad3ac3bdab7d8e7d479230b14351e1ce1da0efb86dd08ef"), looks := true }, kinds := [], alts := [], laidByText := true, laidKinds := [.data, .data], laidTests := true, laidLooks := .later }
def WatchMoreCardSaid : Prop := Claim7.holds Tryd.pinned (.plain (OpenSpec.ofChange watchMoreSpec)) watchMoreCard

/-- THE TIED CARD OF 'dipworkslaw07.WatchTurned'. -/
def watchTurnedCard : Claim7 := { stood := { row := watchTurnedRow, standIns := [], harness := (true, "fed5dcce40824fc84ad3ac3bdab7d8e7d479230b14351e1ce1da0efb86dd08ef"), looks := true }, kinds := [], alts := [], laidByText := true, laidKinds := [.data, .data], laidTests := true, laidLooks := .later }
def WatchTurnedCardSaid : Prop := Claim7.holds Tryd.pinned (.plain (OpenSpec.ofChange watchTurnedSpec)) watchTurnedCard

/-- THE SECOND FORM's CARD OF 'dipworkslaw07.WatchNames'. -/
def watchNamesUptoCard : Claim7 := { stood := { row := watchNamesUptoRow, standIns := [], harness := (true, "fed5dcce40824fc84ad3ac3bdab7d8e7d479230b14351e1ce1da0efb86dd08ef"), looks := true }, kinds := [], alts := [], laidByText := true, laidKinds := [.data, .data], laidTests := true, laidLooks := .later }
def WatchNamesUptoCardSaid : Prop := Claim7.holds Tryd.pinned (.plain (OpenSpec.upto watchNamesSpec)) watchNamesUptoCard

/-- THE SECOND FORM's CARD OF 'dipworkslaw07.WatchTrue'. -/
def watchTrueUptoCard : Claim7 := { stood := { row := watchTrueUptoRow, standIns := [], harness := (true, "fed5dcce40824fc84ad3ac3bdab7d8e7d479230b14351e1ce1da0efb86dd08ef"), looks := true }, kinds := [], alts := [], laidByText := true, laidKinds := [.data, .data], laidTests := true, laidLooks := .later }
def WatchTrueUptoCardSaid : Prop := Claim7.holds Tryd.pinned (.plain (OpenSpec.upto watchTrueSpec)) watchTrueUptoCard

/-- THE SECOND FORM's CARD OF 'dipworkslaw07.WatchShows'. -/
def watchShowsUptoCard : Claim7 := { stood := { row := watchShowsUptoRow, standIns := [], harness := (true, "fed5dcce40824fc84ad3ac3bdab7d8e7d479230b14351e1ce1da0efb86dd08ef"), looks := true }, kinds := [], alts := [], laidByText := true, laidKinds := [.data, .data], laidTests := true, laidLooks := .later }
def WatchShowsUptoCardSaid : Prop := Claim7.holds Tryd.pinned (.plain (OpenSpec.upto watchShowsSpec)) watchShowsUptoCard

/-- THE SECOND FORM's CARD OF 'dipworkslaw07.WatchStopped'. -/
def watchStoppedUptoCard : Claim7 := { stood := { row := watchStoppedUptoRow, standIns := [], harness := (true, "fed5dcce40824fc84ad3ac3bdab7d8e7d479230b14351e1ce1da0efb86dd08ef"), looks := true }, kinds := [], alts := [], laidByText := true, laidKinds := [.data, .data], laidTests := true, laidLooks := .later }
def WatchStoppedUptoCardSaid : Prop := Claim7.holds Tryd.pinned (.plain (OpenSpec.upto watchStoppedSpec)) watchStoppedUptoCard

/-- THE SECOND FORM's CARD OF 'dipworkslaw07.WatchCan'. -/
def watchCanUptoCard : Claim7 := { stood := { row := watchCanUptoRow, standIns := [], harness := (true, "fed5dcce40824fc84ad3ac3bdab7d8e7d479230b14351e1ce1da0efb86dd08ef"), looks := true }, kinds := [], alts := [], laidByText := true, laidKinds := [.data, .data], laidTests := true, laidLooks := .later }
def WatchCanUptoCardSaid : Prop := Claim7.holds Tryd.pinned (.plain (OpenSpec.upto watchCanSpec)) watchCanUptoCard

/-- THE SECOND FORM's CARD OF 'dipworkslaw07.WatchClash'. -/
def watchClashUptoCard : Claim7 := { stood := { row := watchClashUptoRow, standIns := [], harness := (true, "fed5dcce40824fc84ad3ac3bdab7d8e7d479230b14351e1ce1da0efb86dd08ef"), looks := true }, kinds := [], alts := [], laidByText := true, laidKinds := [.data, .data], laidTests := true, laidLooks := .later }
def WatchClashUptoCardSaid : Prop := Claim7.holds Tryd.pinned (.plain (OpenSpec.upto watchClashSpec)) watchClashUptoCard

/-- THE SECOND FORM's CARD OF 'dipworkslaw07.WatchMore'. -/
def watchMoreUptoCard : Claim7 := { stood := { row := watchMoreUptoRow, standIns := [], harness := (true, "fed5dcce40824fc84ad3ac3bdab7d8e7d479230b14351e1ce1da0efb86dd08ef"), looks := true }, kinds := [], alts := [], laidByText := true, laidKinds := [.data, .data], laidTests := true, laidLooks := .later }
def WatchMoreUptoCardSaid : Prop := Claim7.holds Tryd.pinned (.plain (OpenSpec.upto watchMoreSpec)) watchMoreUptoCard

/-- THE SECOND FORM's CARD OF 'dipworkslaw07.WatchTurned'. -/
def watchTurnedUptoCard : Claim7 := { stood := { row := watchTurnedUptoRow, standIns := [], harness := (true, "fed5dcce40824fc84ad3ac3bdab7d8e7d479230b14351e1ce1da0efb86dd08ef"), looks := true }, kinds := [], alts := [], laidByText := true, laidKinds := [.data, .data], laidTests := true, laidLooks := .later }
def WatchTurnedUptoCardSaid : Prop := Claim7.holds Tryd.pinned (.plain (OpenSpec.upto watchTurnedSpec)) watchTurnedUptoCard
end Rows
end Go.Proofs.YtnmmhkkmejbckaaDoor
