/-
  DERIVED. GIVEN WITH THE SEED: THE CARDS: each row of YtafcdpmcmmfbhaaDoorRows.lean that lists a variable, with what it lists TIED to the program's text (the seventh form; the later family's looks); each row that meets fmt, with fmt's text TOLD by the authors' own Lean function (tested against real Go, not proved from fmt's source: count such statements apart). THE CARD IS WHAT COUNTS. Prove the row's statement (the work); the ties are given (YtafcdpmcmmfbhaaDoorTie.lean); close each card by the builder's one call (the guide's Derived/Test/ToyasCard.lean, 'card_holds'). Laid BY PROGRAM, IN A SANDBOX (cutbox-door.mjs). By AI agents, Wed Nov 11 2026. No macro, syntax, notation, axiom, sorry.
-/
import Derived.Test.YtafcdpmcmmfbhaaDoorRows
import GoSem.ClaimSeven
namespace Go.Proofs.YtafcdpmcmmfbhaaDoor
namespace Rows

/-- THE TIED CARD OF 'dipworkslaw12.BoatReads'. -/
def boatReadsCard : Claim7 := { stood := { row := boatReadsRow, standIns := [], harness := (true, "9c843c092e058003e547667ef1766a526383fa8f7925694362302ae9ad6cb784"), looks := true }, kinds := [], alts := [], laidByText := true, laidKinds := [.data], laidTests := true, laidLooks := .later }
def BoatReadsCardSaid : Prop := Claim7.holds Tryd.pinned (.plain (OpenSpec.ofChange boatReadsSpec)) boatReadsCard

/-- THE TIED CARD OF 'dipworkslaw12.BoatLooks'. -/
def boatLooksCard : Claim7 := { stood := { row := boatLooksRow, standIns := [], harness := (true, "9c843c092e058003e547667ef1766a526383fa8f7925694362302ae9ad6cb784"), looks := true }, kinds := [], alts := [], laidByText := true, laidKinds := [.data], laidTests := true, laidLooks := .later }
def BoatLooksCardSaid : Prop := Claim7.holds Tryd.pinned (.plain (OpenSpec.ofChange boatLooksSpec)) boatLooksCard

/-- THE TIED CARD OF 'dipworkslaw12.BoatProves'. -/
def boatProvesCard : Claim7 := { stood := { row := boatProvesRow, standIns := [], harness := (true, "9c843c092e058003e547667ef1766a526383fa8f7925694362302ae9ad6cb784"), looks := true }, kinds := [], alts := [], laidByText := true, laidKinds := [.data], laidTests := true, laidLooks := .later }
def BoatProvesCardSaid : Prop := Claim7.holds Tryd.pinned (.plain (OpenSpec.ofChange boatProvesSpec)) boatProvesCard

/-- THE TIED CARD OF 'dipworkslaw12.BoatTrue'. -/
def boatTrueCard : Claim7 := { stood := { row := boatTrueRow, standIns := [], harness := (true, "9c843c092e058003e547667ef1766a526383fa8f7925694362302ae9ad6cb784"), looks := true }, kinds := [], alts := [], laidByText := true, laidKinds := [.data], laidTests := true, laidLooks := .later }
def BoatTrueCardSaid : Prop := Claim7.holds Tryd.pinned (.plain (OpenSpec.ofChange boatTrueSpec)) boatTrueCard

/-- THE TIED CARD OF 'dipworkslaw12.BoatSteps'. -/
def boatStepsCard : Claim7 := { stood := { row := boatStepsRow, standIns := [], harness := (true, "9c843c092e058003e547667ef1766a526383fa8f7925694362302ae9ad6cb784"), looks := true }, kinds := [], alts := [], laidByText := true, laidKinds := [.data], laidTests := true, laidLooks := .later }
def BoatStepsCardSaid : Prop := Claim7.holds Tryd.pinned (.plain (OpenSpec.ofChange boatStepsSpec)) boatStepsCard

/-- THE TIED CARD OF 'dipworkslaw12.BoatNear'. -/
def boatNearCard : Claim7 := { stood := { row := boatNearRow, standIns := [], harness := (true, "9c843c092e058003e547667ef1766a526383fa8f7925694362302ae9ad6cb784"), looks := true }, kinds := [], alts := [], laidByText := true, laidKinds := [.data], laidTests := true, laidLooks := .later }
def BoatNearCardSaid : Prop := Claim7.holds Tryd.pinned (.plain (OpenSpec.ofChange boatNearSpec)) boatNearCard

/-- THE TIED CARD OF 'dipworkslaw12.BoatMet'. -/
def boatMetCard : Claim7 := { stood := { row := boatMetRow, standIns := [], harness := (true, "9c843c092e058003e547667ef1766a526383fa8f7925694362302ae9ad6cb784"), looks := true }, kinds := [], alts := [], laidByText := true, laidKinds := [.data], laidTests := true, laidLooks := .later }
def BoatMetCardSaid : Prop := Claim7.holds Tryd.pinned (.plain (OpenSpec.ofChange boatMetSpec)) boatMetCard

/-- THE TIED CARD OF 'dipworkslaw12.BoatSpeed'. -/
def boatSpeedCard : Claim7 := { stood := { row := boatSpeedRow, standIns := [], harness := (true, "9c843c092e058003e547667ef1766a526383fa8f7925694362302ae9ad6cb784"), looks := true }, kinds := [], alts := [], laidByText := true, laidKinds := [.data], laidTests := true, laidLooks := .later }
def BoatSpeedCardSaid : Prop := Claim7.holds Tryd.pinned (.plain (OpenSpec.ofChange boatSpeedSpec)) boatSpeedCard

/-- THE TIED CARD OF 'dipworkslaw12.BoatWrong'. -/
def boatWrongCard : Claim7 := { stood := { row := boatWrongRow, standIns := [], harness := (true, "9c843c092e058003e547667ef1766a526383fa8f7925694362302ae9ad6cb784"), looks := true }, kinds := [], alts := [], laidByText := true, laidKinds := [.data], laidTests := true, laidLooks := .later }
def BoatWrongCardSaid : Prop := Claim7.holds Tryd.pinned (.plain (OpenSpec.ofChange boatWrongSpec)) boatWrongCard

/-- THE TIED CARD OF 'dipworkslaw12.BoatMore'. -/
def boatMoreCard : Claim7 := { stood := { row := boatMoreRow, standIns := [], harness := (true, "9c843c092e058003e547667ef1766a526383fa8f7925694362302ae9ad6cb784"), looks := true }, kinds := [], alts := [], laidByText := true, laidKinds := [.data], laidTests := true, laidLooks := .later }
def BoatMoreCardSaid : Prop := Claim7.holds Tryd.pinned (.plain (OpenSpec.ofChange boatMoreSpec)) boatMoreCard

/-- THE TIED CARD OF 'dipworkslaw12.BoatTurned'. -/
def boatTurnedCard : Claim7 := { stood := { row := boatTurnedRow, standIns := [], harness := (true, "9c843c092e058003e547667ef1766a526383fa8f7925694362302ae9ad6cb784"), looks := true }, kinds := [], alts := [], laidByText := true, laidKinds := [.data], laidTests := true, laidLooks := .later }
def BoatTurnedCardSaid : Prop := Claim7.holds Tryd.pinned (.plain (OpenSpec.ofChange boatTurnedSpec)) boatTurnedCard

/-- THE SECOND FORM's CARD OF 'dipworkslaw12.BoatReads'. -/
def boatReadsUptoCard : Claim7 := { stood := { row := boatReadsUptoRow, standIns := [], harness := (true, "9c843c092e058003e547667ef1766a526383fa8f7925694362302ae9ad6cb784"), looks := true }, kinds := [], alts := [], laidByText := true, laidKinds := [.data], laidTests := true, laidLooks := .later }
def BoatReadsUptoCardSaid : Prop := Claim7.holds Tryd.pinned (.plain (OpenSpec.upto boatReadsSpec)) boatReadsUptoCard

/-- THE SECOND FORM's CARD OF 'dipworkslaw12.BoatLooks'. -/
def boatLooksUptoCard : Claim7 := { stood := { row := boatLooksUptoRow, standIns := [], harness := (true, "9c843c092e058003e547667ef1766a526383fa8f7925694362302ae9ad6cb784"), looks := true }, kinds := [], alts := [], laidByText := true, laidKinds := [.data], laidTests := true, laidLooks := .later }
def BoatLooksUptoCardSaid : Prop := Claim7.holds Tryd.pinned (.plain (OpenSpec.upto boatLooksSpec)) boatLooksUptoCard

/-- THE SECOND FORM's CARD OF 'dipworkslaw12.BoatProves'. -/
def boatProvesUptoCard : Claim7 := { stood := { row := boatProvesUptoRow, standIns := [], harness := (true, "9c843c092e058003e547667ef1766a526383fa8f7925694362302ae9ad6cb784"), looks := true }, kinds := [], alts := [], laidByText := true, laidKinds := [.data], laidTests := true, laidLooks := .later }
def BoatProvesUptoCardSaid : Prop := Claim7.holds Tryd.pinned (.plain (OpenSpec.upto boatProvesSpec)) boatProvesUptoCard

/-- THE SECOND FORM's CARD OF 'dipworkslaw12.BoatTrue'. -/
def boatTrueUptoCard : Claim7 := { stood := { row := boatTrueUptoRow, standIns := [], harness := (true, "9c843c092e058003e547667ef1766a526383fa8f7925694362302ae9ad6cb784"), looks := true }, kinds := [], alts := [], laidByText := true, laidKinds := [.data], laidTests := true, laidLooks := .later }
def BoatTrueUptoCardSaid : Prop := Claim7.holds Tryd.pinned (.plain (OpenSpec.upto boatTrueSpec)) boatTrueUptoCard

/-- THE SECOND FORM's CARD OF 'dipworkslaw12.BoatSteps'. -/
def boatStepsUptoCard : Claim7 := { stood := { row := boatStepsUptoRow, standIns := [], harness := (true, "9c843c092e058003e547667ef1766a526383fa8f7925694362302ae9ad6cb784"), looks := true }, kinds := [], alts := [], laidByText := true, laidKinds := [.data], laidTests := true, laidLooks := .later }
def BoatStepsUptoCardSaid : Prop := Claim7.holds Tryd.pinned (.plain (OpenSpec.upto boatStepsSpec)) boatStepsUptoCard

/-- THE SECOND FORM's CARD OF 'dipworkslaw12.BoatNear'. -/
def boatNearUptoCard : Claim7 := { stood := { row := boatNearUptoRow, standIns := [], harness := (true, "9c843c092e058003e547667ef1766a526383fa8f7925694362302ae9ad6cb784"), looks := true }, kinds := [], alts := [], laidByText := true, laidKinds := [.data], laidTests := true, laidLooks := .later }
def BoatNearUptoCardSaid : Prop := Claim7.holds Tryd.pinned (.plain (OpenSpec.upto boatNearSpec)) boatNearUptoCard

/-- THE SECOND FORM's CARD OF 'dipworkslaw12.BoatMet'. -/
def boatMetUptoCard : Claim7 := { stood := { row := boatMetUptoRow, standIns := [], harness := (true, "9c843c092e058003e547667ef1766a526383fa8f7925694362302ae9ad6cb784"), looks := true }, kinds := [], alts := [], laidByText := true, laidKinds := [.data], laidTests := true, laidLooks := .later }
def BoatMetUptoCardSaid : Prop := Claim7.holds Tryd.pinned (.plain (OpenSpec.upto boatMetSpec)) boatMetUptoCard

/-- THE SECOND FORM's CARD OF 'dipworkslaw12.BoatSpeed'. -/
def boatSpeedUptoCard : Claim7 := { stood := { row := boatSpeedUptoRow, standIns := [], harness := (true, "9c843c092e058003e547667ef1766a526383fa8f7925694362302ae9ad6cb784"), looks := true }, kinds := [], alts := [], laidByText := true, laidKinds := [.data], laidTests := true, laidLooks := .later }
def BoatSpeedUptoCardSaid : Prop := Claim7.holds Tryd.pinned (.plain (OpenSpec.upto boatSpeedSpec)) boatSpeedUptoCard

/-- THE SECOND FORM's CARD OF 'dipworkslaw12.BoatWrong'. -/
def boatWrongUptoCard : Claim7 := { stood := { row := boatWrongUptoRow, standIns := [], harness := (true, "9c843c092e058003e547667ef1766a526383fa8f7925694362302ae9ad6cb784"), looks := true }, kinds := [], alts := [], laidByText := true, laidKinds := [.data], laidTests := true, laidLooks := .later }
def BoatWrongUptoCardSaid : Prop := Claim7.holds Tryd.pinned (.plain (OpenSpec.upto boatWrongSpec)) boatWrongUptoCard

/-- THE SECOND FORM's CARD OF 'dipworkslaw12.BoatMore'. -/
def boatMoreUptoCard : Claim7 := { stood := { row := boatMoreUptoRow, standIns := [], harness := (true, "9c843c092e058003e547667ef1766a526383fa8f7925694362302ae9ad6cb784"), looks := true }, kinds := [], alts := [], laidByText := true, laidKinds := [.data], laidTests := true, laidLooks := .later }
def BoatMoreUptoCardSaid : Prop := Claim7.holds Tryd.pinned (.plain (OpenSpec.upto boatMoreSpec)) boatMoreUptoCard

/-- THE SECOND FORM's CARD OF 'dipworkslaw12.BoatTurned'. -/
def boatTurnedUptoCard : Claim7 := { stood := { row := boatTurnedUptoRow, standIns := [], harness := (true, "9c843c092e058003e547667ef1766a526383fa8f7925694362302ae9ad6cb784"), looks := true }, kinds := [], alts := [], laidByText := true, laidKinds := [.data], laidTests := true, laidLooks := .later }
def BoatTurnedUptoCardSaid : Prop := Claim7.holds Tryd.pinned (.plain (OpenSpec.upto boatTurnedSpec)) boatTurnedUptoCard
end Rows
end Go.Proofs.YtafcdpmcmmfbhaaDoor
