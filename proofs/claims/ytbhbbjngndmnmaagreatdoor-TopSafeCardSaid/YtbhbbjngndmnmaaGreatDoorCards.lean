/-
  DERIVED. GIVEN WITH THE SEED: THE CARDS: each row of YtbhbbjngndmnmaaGreatDoorRows.lean that lists a variable, with what it lists TIED to the program's text (the seventh form; the later family's looks); each row that meets fmt, with fmt's text TOLD by the authors' own Lean function (tested against real Go, not proved from fmt's source: count such statements apart). THE CARD IS WHAT COUNTS. Prove the row's statement (the work); the ties are given (YtbhbbjngndmnmaaGreatDoorTie.lean); close each card by the builder's one call (the guide's Derived/Test/ToyasCard.lean, 'card_holds'). Laid BY PROGRAM, IN A SANDBOX (cutbox-door.mjs). By AI agents, Wed Nov 11 2026. No macro, syntax, notation, axiom, sorry.
-/
import Derived.Test.YtbhbbjngndmnmaaGreatDoorRows
import GoSem.ClaimSeven
namespace Go.Proofs.YtbhbbjngndmnmaaGreatDoor
namespace Rows

/-- THE TIED CARD OF 'dipworkstop.TopSafe'. -/
def topSafeCard : Claim7 := { stood := { row := topSafeRow, standIns := [], harness := (true, "3b01f3e7945e7d101a82755dd0f74e6addb2a2009cb185eeb2fabc39a51e2666"), looks := true }, kinds := [], alts := [], laidByText := true, laidKinds := [.data, .data], laidTests := true, laidLooks := .later }
def TopSafeCardSaid : Prop := Claim7.holds Tryz.pinned (.plain (OpenSpec.ofChange topSafeSpec)) topSafeCard

/-- THE SECOND FORM's CARD OF 'dipworkstop.TopSafe'. -/
def topSafeUptoCard : Claim7 := { stood := { row := topSafeUptoRow, standIns := [], harness := (true, "3b01f3e7945e7d101a82755dd0f74e6addb2a2009cb185eeb2fabc39a51e2666"), looks := true }, kinds := [], alts := [], laidByText := true, laidKinds := [.data, .data], laidTests := true, laidLooks := .later }
def TopSafeUptoCardSaid : Prop := Claim7.holds Tryz.pinned (.plain (OpenSpec.upto topSafeSpec)) topSafeUptoCard
end Rows
end Go.Proofs.YtbhbbjngndmnmaaGreatDoor
