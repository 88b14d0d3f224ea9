/-
  DERIVED. GIVEN WITH THE SEED: THE CARDS: each row of YtmahocdmkpigjaaDoorRows.lean that lists a variable, with what it lists TIED to the program's text (the seventh form; the later family's looks); each row that meets fmt, with fmt's text TOLD by the authors' own Lean function (tested against real Go, not proved from fmt's source: count such statements apart). THE CARD IS WHAT COUNTS. Prove the row's statement (the work); the ties are given (YtmahocdmkpigjaaDoorTie.lean); close each card by the builder's one call (the guide's Derived/Test/ToyasCard.lean, 'card_holds'). Laid BY PROGRAM, IN A SANDBOX (cutbox-door.mjs). By AI agents, Wed Nov 11 2026. No macro, syntax, notation, axiom, sorry.
-/
import Derived.Test.YtmahocdmkpigjaaDoorRows
import GoSem.ClaimSeven
namespace Go.Proofs.YtmahocdmkpigjaaDoor
namespace Rows

/-- THE TIED CARD OF 'dipworkslaw04.SurfReads'. -/
def surfReadsCard : Claim7 := { stood := { row := surfReadsRow, standIns := [], harness := (true, "9c7ed6fdf0c6cc2cac3405ae83d5a94f7f51c69788e69a809226b7f5f9d47555"), looks := true }, kinds := [], alts := [], laidByText := true, laidKinds := [.data, .data], laidTests := true, laidLooks := .later }
def SurfReadsCardSaid : Prop := Claim7.holds Tryd.pinned (.plain (OpenSpec.ofChange surfReadsSpec)) surfReadsCard

/-- THE TIED CARD OF 'dipworkslaw04.SurfLooks'. -/
def surfLooksCard : Claim7 := { stood := { row := surfLooksRow, standIns := [], harness := (true, "9c7ed6fdf0c6cc2cac3405ae83d5a94f7f51c69788e69a809226b7f5f9d47555"), looks := true }, kinds := [], alts := [], laidByText := true, laidKinds := [.data, .data], laidTests := true, laidLooks := .later }
def SurfLooksCardSaid : Prop := Claim7.holds Tryd.pinned (.plain (OpenSpec.ofChange surfLooksSpec)) surfLooksCard

/-- THE TIED CARD OF 'dipworkslaw04.SurfSaves'. -/
def surfSavesCard : Claim7 := { stood := { row := surfSavesRow, standIns := [], harness := (true, "9c7ed6fdf0c6cc2cac3405ae83d5a94f7f51c69788e69a809226b7f5f9d47555"), looks := true }, kinds := [], alts := [], laidByText := true, laidKinds := [.data, .data], laidTests := true, laidLooks := .later }
def SurfSavesCardSaid : Prop := Claim7.holds Tryd.pinned (.plain (OpenSpec.ofChange surfSavesSpec)) surfSavesCard

/-- THE TIED CARD OF 'dipworkslaw04.SurfTrue'. -/
def surfTrueCard : Claim7 := { stood := { row := surfTrueRow, standIns := [], harness := (true, "9c7ed6fdf0c6cc2cac3405ae83d5a94f7f51c69788e69a809226b7f5f9d47555"), looks := true }, kinds := [], alts := [], laidByText := true, laidKinds := [.data, .data], laidTests := true, laidLooks := .later }
def SurfTrueCardSaid : Prop := Claim7.holds Tryd.pinned (.plain (OpenSpec.ofChange surfTrueSpec)) surfTrueCard

/-- THE TIED CARD OF 'dipworkslaw04.SurfKnown'. -/
def surfKnownCard : Claim7 := { stood := { row := surfKnownRow, standIns := [], harness := (true, "9c7ed6fdf0c6cc2cac3405ae83d5a94f7f51c69788e69a809226b7f5f9d47555"), looks := true }, kinds := [], alts := [], laidByText := true, laidKinds := [.data, .data], laidTests := true, laidLooks := .later }
def SurfKnownCardSaid : Prop := Claim7.holds Tryd.pinned (.plain (OpenSpec.ofChange surfKnownSpec)) surfKnownCard

/-- THE TIED CARD OF 'dipworkslaw04.SurfEnds'. -/
def surfEndsCard : Claim7 := { stood := { row := surfEndsRow, standIns := [], harness := (true, "9c7ed6fdf0c6cc2cac3405ae83d5a94f7f51c69788e69a809226b7f5f9d47555"), looks := true }, kinds := [], alts := [], laidByText := true, laidKinds := [.data, .data], laidTests := true, laidLooks := .later }
def SurfEndsCardSaid : Prop := Claim7.holds Tryd.pinned (.plain (OpenSpec.ofChange surfEndsSpec)) surfEndsCard

/-- THE TIED CARD OF 'dipworkslaw04.SurfEnough'. -/
def surfEnoughCard : Claim7 := { stood := { row := surfEnoughRow, standIns := [], harness := (true, "9c7ed6fdf0c6cc2cac3405ae83d5a94f7f51c69788e69a809226b7f5f9d47555"), looks := true }, kinds := [], alts := [], laidByText := true, laidKinds := [.data, .data], laidTests := true, laidLooks := .later }
def SurfEnoughCardSaid : Prop := Claim7.holds Tryd.pinned (.plain (OpenSpec.ofChange surfEnoughSpec)) surfEnoughCard

/-- THE TIED CARD OF 'dipworkslaw04.SurfSave'. -/
def surfSaveCard : Claim7 := { stood := { row := surfSaveRow, standIns := [], harness := (true, "9c7ed6fdf0c6cc2cac3405ae83d5a94f7f51c69788e69a809226b7f5f9d47555"), looks := true }, kinds := [], alts := [], laidByText := true, laidKinds := [.data, .data], laidTests := true, laidLooks := .later }
def SurfSaveCardSaid : Prop := Claim7.holds Tryd.pinned (.plain (OpenSpec.ofChange surfSaveSpec)) surfSaveCard

/-- THE TIED CARD OF 'dipworkslaw04.SurfMore'. -/
def surfMoreCard : Claim7 := { stood := { row := surfMoreRow, standIns := [], harness := (true, "9c7ed6fdf0c6cc2cac3405ae83d5a94f7f51c69788e69a809226b7f5f9d47555"), looks := true }, kinds := [], alts := [], laidByText := true, laidKinds := [.data, .data], laidTests := true, laidLooks := .later }
def SurfMoreCardSaid : Prop := Claim7.holds Tryd.pinned (.plain (OpenSpec.ofChange surfMoreSpec)) surfMoreCard

/-- THE TIED CARD OF 'dipworkslaw04.SurfFarther'. -/
def surfFartherCard : Claim7 := { stood := { row := surfFartherRow, standIns := [], harness := (true, "9c7ed6fdf0c6cc2cac3405ae83d5a94f7f51c69788e69a809226b7f5f9d47555"), looks := true }, kinds := [], alts := [], laidByText := true, laidKinds := [.data, .data], laidTests := true, laidLooks := .later }
def SurfFartherCardSaid : Prop := Claim7.holds Tryd.pinned (.plain (OpenSpec.ofChange surfFartherSpec)) surfFartherCard

/-- THE SECOND FORM's CARD OF 'dipworkslaw04.SurfReads'. -/
def surfReadsUptoCard : Claim7 := { stood := { row := surfReadsUptoRow, standIns := [], harness := (true, "9c7ed6fdf0c6cc2cac3405ae83d5a94f7f51c69788e69a809226b7f5f9d47555"), looks := true }, kinds := [], alts := [], laidByText := true, laidKinds := [.data, .data], laidTests := true, laidLooks := .later }
def SurfReadsUptoCardSaid : Prop := Claim7.holds Tryd.pinned (.plain (OpenSpec.upto surfReadsSpec)) surfReadsUptoCard

/-- THE SECOND FORM's CARD OF 'dipworkslaw04.SurfLooks'. -/
def surfLooksUptoCard : Claim7 := { stood := { row := surfLooksUptoRow, standIns := [], harness := (true, "9c7ed6fdf0c6cc2cac3405ae83d5a94f7f51c69788e69a809226b7f5f9d47555"), looks := true }, kinds := [], alts := [], laidByText := true, laidKinds := [.data, .data], laidTests := true, laidLooks := .later }
def SurfLooksUptoCardSaid : Prop := Claim7.holds Tryd.pinned (.plain (OpenSpec.upto surfLooksSpec)) surfLooksUptoCard

/-- THE SECOND FORM's CARD OF 'dipworkslaw04.SurfSaves'. -/
def surfSavesUptoCard : Claim7 := { stood := { row := surfSavesUptoRow, standIns := [], harness := (true, "9c7ed6fdf0c6cc2cac3405ae83d5a94f7f51c69788e69a809226b7f5f9d47555"), looks := true }, kinds := [], alts := [], laidByText := true, laidKinds := [.data, .data], laidTests := true, laidLooks := .later }
def SurfSavesUptoCardSaid : Prop := Claim7.holds Tryd.pinned (.plain (OpenSpec.upto surfSavesSpec)) surfSavesUptoCard

/-- THE SECOND FORM's CARD OF 'dipworkslaw04.SurfTrue'. -/
def surfTrueUptoCard : Claim7 := { stood := { row := surfTrueUptoRow, standIns := [], harness := (true, "9c7ed6fdf0c6cc2cac3405ae83d5a94f7f51c69788e69a809226b7f5f9d47555"), looks := true }, kinds := [], alts := [], laidByText := true, laidKinds := [.data, .data], laidTests := true, laidLooks := .later }
def SurfTrueUptoCardSaid : Prop := Claim7.holds Tryd.pinned (.plain (OpenSpec.upto surfTrueSpec)) surfTrueUptoCard

/-- THE SECOND FORM's CARD OF 'dipworkslaw04.SurfKnown'. -/
def surfKnownUptoCard : Claim7 := { stood := { row := surfKnownUptoRow, standIns := [], harness := (true, "9c7ed6fdf0c6cc2cac3405ae83d5a94f7f51c69788e69a809226b7f5f9d47555"), looks := true }, kinds := [], alts := [], laidByText := true, laidKinds := [.data, .data], laidTests := true, laidLooks := .later }
def SurfKnownUptoCardSaid : Prop := Claim7.holds Tryd.pinned (.plain (OpenSpec.upto surfKnownSpec)) surfKnownUptoCard

/-- THE SECOND FORM's CARD OF 'dipworkslaw04.SurfEnds'. -/
def surfEndsUptoCard : Claim7 := { stood := { row := surfEndsUptoRow, standIns := [], harness := (true, "9c7ed6fdf0c6cc2cac3405ae83d5a94f7f51c69788e69a809226b7f5f9d47555"), looks := true }, kinds := [], alts := [], laidByText := true, laidKinds := [.data, .data], laidTests := true, laidLooks := .later }
def SurfEndsUptoCardSaid : Prop := Claim7.holds Tryd.pinned (.plain (OpenSpec.upto surfEndsSpec)) surfEndsUptoCard

/-- THE SECOND FORM's CARD OF 'dipworkslaw04.SurfEnough'. -/
def surfEnoughUptoCard : Claim7 := { stood := { row := surfEnoughUptoRow, standIns := [], harness := (true, "9c7ed6fdf0c6cc2cac3405ae83d5a94f7f51c69788e69a809226b7f5f9d47555"), looks := true }, kinds := [], alts := [], laidByText := true, laidKinds := [.data, .data], laidTests := true, laidLooks := .later }
def SurfEnoughUptoCardSaid : Prop := Claim7.holds Tryd.pinned (.plain (OpenSpec.upto surfEnoughSpec)) surfEnoughUptoCard

/-- THE SECOND FORM's CARD OF 'dipworkslaw04.SurfSave'. -/
def surfSaveUptoCard : Claim7 := { stood := { row := surfSaveUptoRow, standIns := [], harness := (true, "9c7ed6fdf0c6cc2cac3405ae83d5a94f7f51c69788e69a809226b7f5f9d47555"), looks := true }, kinds := [], alts := [], laidByText := true, laidKinds := [.data, .data], laidTests := true, laidLooks := .later }
def SurfSaveUptoCardSaid : Prop := Claim7.holds Tryd.pinned (.plain (OpenSpec.upto surfSaveSpec)) surfSaveUptoCard

/-- THE SECOND FORM's CARD OF 'dipworkslaw04.SurfMore'. -/
def surfMoreUptoCard : Claim7 := { stood := { row := surfMoreUptoRow, standIns := [], harness := (true, "9c7ed6fdf0c6cc2cac3405ae83d5a94f7f51c69788e69a809226b7f5f9d47555"), looks := true }, kinds := [], alts := [], laidByText := true, laidKinds := [.data, .data], laidTests := true, laidLooks := .later }
def SurfMoreUptoCardSaid : Prop := Claim7.holds Tryd.pinned (.plain (OpenSpec.upto surfMoreSpec)) surfMoreUptoCard

/-- THE SECOND FORM's CARD OF 'dipworkslaw04.SurfFarther'. -/
def surfFartherUptoCard : Claim7 := { stood := { row := surfFartherUptoRow, standIns := [], harness := (true, "9c7ed6fdf0c6cc2cac3405ae83d5a94f7f51c69788e69a809226b7f5f9d47555"), looks := true }, kinds := [], alts := [], laidByText := true, laidKinds := [.data, .data], laidTests := true, laidLooks := .later }
def SurfFartherUptoCardSaid : Prop := Claim7.holds Tryd.pinned (.plain (OpenSpec.upto surfFartherSpec)) surfFartherUptoCard
end Rows
end Go.Proofs.YtmahocdmkpigjaaDoor
