/-
  DERIVED. GIVEN WITH THE SEED: THE CARDS: each row of YtkbjodmpmmnhgaaDoorRows.lean that lists a variable, with what it lists TIED to the program's text (the seventh form; the later family's looks); each row that meets fmt, with fmt's text TOLD by the authors' own Lean function (tested against real Go, not proved from fmt's source: count such statements apart). THE CARD IS WHAT COUNTS. Prove the row's statement (the work); the ties are given (YtkbjodmpmmnhgaaDoorTie.lean); close each card by the builder's one call (the guide's Derived/Test/ToyasCard.lean, 'card_holds'). Laid BY PROGRAM, IN A SANDBOX (cutbox-door.mjs). By AI agents, Wed Nov 11 2026. No macro, syntax, notation, axiom, sorry.
-/
import Derived.Test.YtkbjodmpmmnhgaaDoorRows
import GoSem.ClaimSeven
namespace Go.Proofs.YtkbjodmpmmnhgaaDoor
namespace Rows

/-- THE TIED CARD OF 'dipworkslaw10.FlagReads'. -/
def flagReadsCard : Claim7 := { stood := { row := flagReadsRow, standIns := [], harness := (true, "c253e14c53eb33179936b3b9fe4e612ecff39a61e206315e78384e6a52b4a1e8"), looks := true }, kinds := [], alts := [], laidByText := true, laidKinds := [.data, .data], laidTests := true, laidLooks := .later }
def FlagReadsCardSaid : Prop := Claim7.holds Tryd.pinned (.plain (OpenSpec.ofChange flagReadsSpec)) flagReadsCard

/-- THE TIED CARD OF 'dipworkslaw10.FlagLooks'. -/
def flagLooksCard : Claim7 := { stood := { row := flagLooksRow, standIns := [], harness := (true, "c253e14c53eb33179936b3b9fe4e612ecff39a61e206315e78384e6a52b4a1e8"), looks := true }, kinds := [], alts := [], laidByText := true, laidKinds := [.data, .data], laidTests := true, laidLooks := .later }
def FlagLooksCardSaid : Prop := Claim7.holds Tryd.pinned (.plain (OpenSpec.ofChange flagLooksSpec)) flagLooksCard

/-- THE TIED CARD OF 'dipworkslaw10.FlagProves'. -/
def flagProvesCard : Claim7 := { stood := { row := flagProvesRow, standIns := [], harness := (true, "c253e14c53eb33179936b3b9fe4e612ecff39a61e206315e78384e6a52b4a1e8"), looks := true }, kinds := [], alts := [], laidByText := true, laidKinds := [.data, .data], laidTests := true, laidLooks := .later }
def FlagProvesCardSaid : Prop := Claim7.holds Tryd.pinned (.plain (OpenSpec.ofChange flagProvesSpec)) flagProvesCard

/-- THE TIED CARD OF 'dipworkslaw10.FlagTrue'. -/
def flagTrueCard : Claim7 := { stood := { row := flagTrueRow, standIns := [], harness := (true, "c253e14c53eb33179936b3b9fe4e612ecff39a61e206315e78384e6a52b4a1e8"), looks := true }, kinds := [], alts := [], laidByText := true, laidKinds := [.data, .data], laidTests := true, laidLooks := .later }
def FlagTrueCardSaid : Prop := Claim7.holds Tryd.pinned (.plain (OpenSpec.ofChange flagTrueSpec)) flagTrueCard

/-- THE TIED CARD OF 'dipworkslaw10.FlagEnds'. -/
def flagEndsCard : Claim7 := { stood := { row := flagEndsRow, standIns := [], harness := (true, "c253e14c53eb33179936b3b9fe4e612ecff39a61e206315e78384e6a52b4a1e8"), looks := true }, kinds := [], alts := [], laidByText := true, laidKinds := [.data, .data], laidTests := true, laidLooks := .later }
def FlagEndsCardSaid : Prop := Claim7.holds Tryd.pinned (.plain (OpenSpec.ofChange flagEndsSpec)) flagEndsCard

/-- THE TIED CARD OF 'dipworkslaw10.FlagUnder'. -/
def flagUnderCard : Claim7 := { stood := { row := flagUnderRow, standIns := [], harness := (true, "c253e14c53eb33179936b3b9fe4e612ecff39a61e206315e78384e6a52b4a1e8"), looks := true }, kinds := [], alts := [], laidByText := true, laidKinds := [.data, .data], laidTests := true, laidLooks := .later }
def FlagUnderCardSaid : Prop := Claim7.holds Tryd.pinned (.plain (OpenSpec.ofChange flagUnderSpec)) flagUnderCard

/-- THE TIED CARD OF 'dipworkslaw10.FlagAsk'. -/
def flagAskCard : Claim7 := { stood := { row := flagAskRow, standIns := [], harness := (true, "c253e14c53eb33179936b3b9fe4e612ecff39a61e206315e78384e6a52b4a1e8"), looks := true }, kinds := [], alts := [], laidByText := true, laidKinds := [.data, .data], laidTests := true, laidLooks := .later }
def FlagAskCardSaid : Prop := Claim7.holds Tryd.pinned (.plain (OpenSpec.ofChange flagAskSpec)) flagAskCard

/-- THE TIED CARD OF 'dipworkslaw10.FlagWrong'. -/
def flagWrongCard : Claim7 := { stood := { row := flagWrongRow, standIns := [], harness := (true, "c253e14c53eb33179936b3b9fe4e612ecff39a61e206315e78384e6a52b4a1e8"), looks := true }, kinds := [], alts := [], laidByText := true, laidKinds := [.data, .data], laidTests := true, laidLooks := .later }
def FlagWrongCardSaid : Prop := Claim7.holds Tryd.pinned (.plain (OpenSpec.ofChange flagWrongSpec)) flagWrongCard

/-- THE TIED CARD OF 'dipworkslaw10.FlagMore'. -/
def flagMoreCard : Claim7 := { stood := { row := flagMoreRow, standIns := [], harness := (true, "c253e14c53eb33179936b3b9fe4e612ecff39a61e206315e78384e6a52b4a1e8"), looks := true }, kinds := [], alts := [], laidByText := true, laidKinds := [.data, .data], laidTests := true, laidLooks := .later }
def FlagMoreCardSaid : Prop := Claim7.holds Tryd.pinned (.plain (OpenSpec.ofChange flagMoreSpec)) flagMoreCard

/-- THE TIED CARD OF 'dipworkslaw10.FlagTwice'. -/
def flagTwiceCard : Claim7 := { stood := { row := flagTwiceRow, standIns := [], harness := (true, "c253e14c53eb33179936b3b9fe4e612ecff39a61e206315e78384e6a52b4a1e8"), looks := true }, kinds := [], alts := [], laidByText := true, laidKinds := [.data, .data], laidTests := true, laidLooks := .later }
def FlagTwiceCardSaid : Prop := Claim7.holds Tryd.pinned (.plain (OpenSpec.ofChange flagTwiceSpec)) flagTwiceCard

/-- THE SECOND FORM's CARD OF 'dipworkslaw10.FlagReads'. -/
def flagReadsUptoCard : Claim7 := { stood := { row := flagReadsUptoRow, standIns := [], harness := (true, "c253e14c53eb33179936b3b9fe4e612ecff39a61e206315e78384e6a52b4a1e8"), looks := true }, kinds := [], alts := [], laidByText := true, laidKinds := [.data, .data], laidTests := true, laidLooks := .later }
def FlagReadsUptoCardSaid : Prop := Claim7.holds Tryd.pinned (.plain (OpenSpec.upto flagReadsSpec)) flagReadsUptoCard

/-- THE SECOND FORM's CARD OF 'dipworkslaw10.FlagLooks'. -/
def flagLooksUptoCard : Claim7 := { stood := { row := flagLooksUptoRow, standIns := [], harness := (true, "c253e14c53eb33179936b3b9fe4e612ecff39a61e206315e78384e6a52b4a1e8"), looks := true }, kinds := [], alts := [], laidByText := true, laidKinds := [.data, .data], laidTests := true, laidLooks := .later }
def FlagLooksUptoCardSaid : Prop := Claim7.holds Tryd.pinned (.plain (OpenSpec.upto flagLooksSpec)) flagLooksUptoCard

/-- THE SECOND FORM's CARD OF 'dipworkslaw10.FlagProves'. -/
def flagProvesUptoCard : Claim7 := { stood := { row := flagProvesUptoRow, standIns := [], harness := (true, "c253e14c53eb33179936b3b9fe4e612ecff39a61e206315e78384e6a52b4a1e8"), looks := true }, kinds := [], alts := [], laidByText := true, laidKinds := [.data, .data], laidTests := true, laidLooks := .later }
def FlagProvesUptoCardSaid : Prop := Claim7.holds Tryd.pinned (.plain (OpenSpec.upto flagProvesSpec)) flagProvesUptoCard

/-- THE SECOND FORM's CARD OF 'dipworkslaw10.FlagTrue'. -/
def flagTrueUptoCard : Claim7 := { stood := { row := flagTrueUptoRow, standIns := [], harness := (true, "c253e14c53eb33179936b3b9fe4e612ecff39a61e206315e78384e6a52b4a1e8"), looks := true }, kinds := [], alts := [], laidByText := true, laidKinds := [.data, .data], laidTests := true, laidLooks := .later }
def FlagTrueUptoCardSaid : Prop := Claim7.holds Tryd.pinned (.plain (OpenSpec.upto flagTrueSpec)) flagTrueUptoCard

/-- THE SECOND FORM's CARD OF 'dipworkslaw10.FlagEnds'. -/
def flagEndsUptoCard : Claim7 := { stood := { row := flagEndsUptoRow, standIns := [], harness := (true, "c253e14c53eb33179936b3b9fe4e612ecff39a61e206315e78384e6a52b4a1e8"), looks := true }, kinds := [], alts := [], laidByText := true, laidKinds := [.data, .data], laidTests := true, laidLooks := .later }
def FlagEndsUptoCardSaid : Prop := Claim7.holds Tryd.pinned (.plain (OpenSpec.upto flagEndsSpec)) flagEndsUptoCard

/-- THE SECOND FORM's CARD OF 'dipworkslaw10.FlagUnder'. -/
def flagUnderUptoCard : Claim7 := { stood := { row := flagUnderUptoRow, standIns := [], harness := (true, "c253e14c53eb33179936b3b9fe4e612ecff39a61e206315e78384e6a52b4a1e8"), looks := true }, kinds := [], alts := [], laidByText := true, laidKinds := [.data, .data], laidTests := true, laidLooks := .later }
def FlagUnderUptoCardSaid : Prop := Claim7.holds Tryd.pinned (.plain (OpenSpec.upto flagUnderSpec)) flagUnderUptoCard

/-- THE SECOND FORM's CARD OF 'dipworkslaw10.FlagAsk'. -/
def flagAskUptoCard : Claim7 := { stood := { row := flagAskUptoRow, standIns := [], harness := (true, "c253e14c53eb33179936b3b9fe4e612ecff39a61e206315e78384e6a52b4a1e8"), looks := true }, kinds := [], alts := [], laidByText := true, laidKinds := [.data, .data], laidTests := true, laidLooks := .later }
def FlagAskUptoCardSaid : Prop := Claim7.holds Tryd.pinned (.plain (OpenSpec.upto flagAskSpec)) flagAskUptoCard

/-- THE SECOND FORM's CARD OF 'dipworkslaw10.FlagWrong'. -/
def flagWrongUptoCard : Claim7 := { stood := { row := flagWrongUptoRow, standIns := [], harness := (true, "c253e14c53eb33179936b3b9fe4e612ecff39a61e206315e78384e6a52b4a1e8"), looks := true }, kinds := [], alts := [], laidByText := true, laidKinds := [.data, .data], laidTests := true, laidLooks := .later }
def FlagWrongUptoCardSaid : Prop := Claim7.holds Tryd.pinned (.plain (OpenSpec.upto flagWrongSpec)) flagWrongUptoCard

/-- THE SECOND FORM's CARD OF 'dipworkslaw10.FlagMore'. -/
def flagMoreUptoCard : Claim7 := { stood := { row := flagMoreUptoRow, standIns := [], harness := (true, "c253e14c53eb33179936b3b9fe4e612ecff39a61e206315e78384e6a52b4a1e8"), looks := true }, kinds := [], alts := [], laidByText := true, laidKinds := [.data, .data], laidTests := true, laidLooks := .later }
def FlagMoreUptoCardSaid : Prop := Claim7.holds Tryd.pinned (.plain (OpenSpec.upto flagMoreSpec)) flagMoreUptoCard

/-- THE SECOND FORM's CARD OF 'dipworkslaw10.FlagTwice'. -/
def flagTwiceUptoCard : Claim7 := { stood := { row := flagTwiceUptoRow, standIns := [], harness := (true, "c253e14c53eb33179936b3b9fe4e612ecff39a61e206315e78384e6a52b4a1e8"), looks := true }, kinds := [], alts := [], laidByText := true, laidKinds := [.data, .data], laidTests := true, laidLooks := .later }
def FlagTwiceUptoCardSaid : Prop := Claim7.holds Tryd.pinned (.plain (OpenSpec.upto flagTwiceSpec)) flagTwiceUptoCard
end Rows
end Go.Proofs.YtkbjodmpmmnhgaaDoor
