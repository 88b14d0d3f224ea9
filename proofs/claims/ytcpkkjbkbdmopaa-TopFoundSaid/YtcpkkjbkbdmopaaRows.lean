/-
  No cell of these rows narrows 'for every input' (looked for: loops, veiled, ifaces, maps, wideKeys, modest, calm, conditions, laid).
  DERIVED. THE GIVEN ROWS OF THIS SEAT. 9 by the template 'for every input the law returns true; each argument reads behind the call as it read before'; 0 by the template 'total and deterministic' (their statements: YtcpkkjbkbdmopaaTotals.lean).
  GIVEN WITH THE SEED: the statements are not yours to turn. If you find one false, say at which input.
  Laid BY PROGRAM, IN A SANDBOX (cutbox-rows.mjs): the forced cells as the released guide's own fill.sh prints them over the translation 923572853b72337e… (all of the seat's roots in one cut). By AI agents, Wed Nov 11 2026. No macro, syntax, notation, axiom, sorry.
-/
import Derived.Test.YtcpkkjbkbdmopaaChecked
import GoSem.Claim
import GoSem.ClaimJoined
import GoSem.ClaimMapViews
import Derived.JoinedTies
import Derived.KernelRfl
namespace Go.Proofs.Ytcpkkjbkbdmopaa
/- THE CELL 'sum', in the pinned program and in every row, IS THE sha256 OF THE DUMP (.gsa) THAT YtcpkkjbkbdmopaaProg.lean LOADS. Nothing in Lean hashes anything: it is a label: what it is worth is what the hold of that sum in a sandbox is worth. -/
noncomputable def Try.pinned : Pinned := { name := "ytcpkkjbkbdmopaa", sum := "923572853b72337e22404880fbe7e474dbd1501af25f035f2f44ed4d25d9a606", checked := Try.checked }
namespace Rows
def none {H : Type} : Left H := { results := [], args := [] }

/-- 'dipworkstop.TopFound': WHATEVER THE INPUT: true; the input reads as it did. -/
def topFoundSpec : ChangeSpec := { name := "topFound", fn := fun _ => fun
  | [d1, d2, d3, d4] => { results := [.lit (.bool true)], args := [d1, d2, d3, d4] }
  | _ => none }
def topFoundRow : OpenClaim := { program := "ytcpkkjbkbdmopaa", sum := "923572853b72337e22404880fbe7e474dbd1501af25f035f2f44ed4d25d9a606", func := "dipworks/dipworkstop.TopFound", spec := "topFound", unfollowed := true, recurses := true, plainKeys := false, apart := false }
def TopFoundSaid : Prop := topFoundRow.holds Try.pinned (OpenSpec.ofChange topFoundSpec)

/-- ITS FALSE NEIGHBOUR: 'it returns false'. Refute it at one input. -/
def topFoundWrong : ChangeSpec := { name := "topFound", fn := fun _ => fun
  | [d1, d2, d3, d4] => { results := [.lit (.bool false)], args := [d1, d2, d3, d4] }
  | _ => none }
def TopFoundWrongFalsely : Prop := topFoundRow.holds Try.pinned (OpenSpec.ofChange topFoundWrong)

/-- 'dipworkslaw11.RailTells': WHATEVER THE INPUT: true; the input reads as it did. -/
def railTellsSpec : ChangeSpec := { name := "railTells", fn := fun _ => fun
  | [d1, d2, d3, d4] => { results := [.lit (.bool true)], args := [d1, d2, d3, d4] }
  | _ => none }
def railTellsRow : OpenClaim := { program := "ytcpkkjbkbdmopaa", sum := "923572853b72337e22404880fbe7e474dbd1501af25f035f2f44ed4d25d9a606", func := "dipworks/dipworkslaw11.RailTells", spec := "railTells", unfollowed := true, recurses := true, plainKeys := false, apart := false }
def RailTellsSaid : Prop := railTellsRow.holds Try.pinned (OpenSpec.ofChange railTellsSpec)

/-- ITS FALSE NEIGHBOUR: 'it returns false'. Refute it at one input. -/
def railTellsWrong : ChangeSpec := { name := "railTells", fn := fun _ => fun
  | [d1, d2, d3, d4] => { results := [.lit (.bool false)], args := [d1, d2, d3, d4] }
  | _ => none }
def RailTellsWrongFalsely : Prop := railTellsRow.holds Try.pinned (OpenSpec.ofChange railTellsWrong)

/-- 'dipworkslaw11.RailNames': WHATEVER THE INPUT: true; the input reads as it did. -/
def railNamesSpec : ChangeSpec := { name := "railNames", fn := fun _ => fun
  | [] => { results := [.lit (.bool true)], args := [] }
  | _ => none }
def railNamesRow : OpenClaim := { program := "ytcpkkjbkbdmopaa", sum := "923572853b72337e22404880fbe7e474dbd1501af25f035f2f44ed4d25d9a606", func := "dipworks/dipworkslaw11.RailNames", spec := "railNames", unfollowed := true, recurses := true, plainKeys := false, apart := false }
def RailNamesSaid : Prop := railNamesRow.holds Try.pinned (OpenSpec.ofChange railNamesSpec)

/-- ITS FALSE NEIGHBOUR: 'it returns false'. Refute it at one input. -/
def railNamesWrong : ChangeSpec := { name := "railNames", fn := fun _ => fun
  | [] => { results := [.lit (.bool false)], args := [] }
  | _ => none }
def RailNamesWrongFalsely : Prop := railNamesRow.holds Try.pinned (OpenSpec.ofChange railNamesWrong)

/-- 'dipworkslaw11.RailTrue': WHATEVER THE INPUT: true; the input reads as it did. -/
def railTrueSpec : ChangeSpec := { name := "railTrue", fn := fun _ => fun
  | [d1, d2, d3, d4, d5, d6] => { results := [.lit (.bool true)], args := [d1, d2, d3, d4, d5, d6] }
  | _ => none }
def railTrueRow : OpenClaim := { program := "ytcpkkjbkbdmopaa", sum := "923572853b72337e22404880fbe7e474dbd1501af25f035f2f44ed4d25d9a606", func := "dipworks/dipworkslaw11.RailTrue", spec := "railTrue", unfollowed := true, recurses := true, plainKeys := false, apart := false }
def RailTrueSaid : Prop := railTrueRow.holds Try.pinned (OpenSpec.ofChange railTrueSpec)

/-- ITS FALSE NEIGHBOUR: 'it returns false'. Refute it at one input. -/
def railTrueWrong : ChangeSpec := { name := "railTrue", fn := fun _ => fun
  | [d1, d2, d3, d4, d5, d6] => { results := [.lit (.bool false)], args := [d1, d2, d3, d4, d5, d6] }
  | _ => none }
def RailTrueWrongFalsely : Prop := railTrueRow.holds Try.pinned (OpenSpec.ofChange railTrueWrong)

/-- 'dipworkslaw11.RailEnds': WHATEVER THE INPUT: true; the input reads as it did. -/
def railEndsSpec : ChangeSpec := { name := "railEnds", fn := fun _ => fun
  | [d1, d2] => { results := [.lit (.bool true)], args := [d1, d2] }
  | _ => none }
def railEndsRow : OpenClaim := { program := "ytcpkkjbkbdmopaa", sum := "923572853b72337e22404880fbe7e474dbd1501af25f035f2f44ed4d25d9a606", func := "dipworks/dipworkslaw11.RailEnds", spec := "railEnds", unfollowed := true, recurses := true, plainKeys := false, apart := false }
def RailEndsSaid : Prop := railEndsRow.holds Try.pinned (OpenSpec.ofChange railEndsSpec)

/-- ITS FALSE NEIGHBOUR: 'it returns false'. Refute it at one input. -/
def railEndsWrong : ChangeSpec := { name := "railEnds", fn := fun _ => fun
  | [d1, d2] => { results := [.lit (.bool false)], args := [d1, d2] }
  | _ => none }
def RailEndsWrongFalsely : Prop := railEndsRow.holds Try.pinned (OpenSpec.ofChange railEndsWrong)

/-- 'dipworkslaw11.RailLatest': WHATEVER THE INPUT: true; the input reads as it did. -/
def railLatestSpec : ChangeSpec := { name := "railLatest", fn := fun _ => fun
  | [d1, d2, d3, d4] => { results := [.lit (.bool true)], args := [d1, d2, d3, d4] }
  | _ => none }
def railLatestRow : OpenClaim := { program := "ytcpkkjbkbdmopaa", sum := "923572853b72337e22404880fbe7e474dbd1501af25f035f2f44ed4d25d9a606", func := "dipworks/dipworkslaw11.RailLatest", spec := "railLatest", unfollowed := true, recurses := true, plainKeys := false, apart := false }
def RailLatestSaid : Prop := railLatestRow.holds Try.pinned (OpenSpec.ofChange railLatestSpec)

/-- ITS FALSE NEIGHBOUR: 'it returns false'. Refute it at one input. -/
def railLatestWrong : ChangeSpec := { name := "railLatest", fn := fun _ => fun
  | [d1, d2, d3, d4] => { results := [.lit (.bool false)], args := [d1, d2, d3, d4] }
  | _ => none }
def RailLatestWrongFalsely : Prop := railLatestRow.holds Try.pinned (OpenSpec.ofChange railLatestWrong)

/-- 'dipworkslaw11.RailWhen': WHATEVER THE INPUT: true; the input reads as it did. -/
def railWhenSpec : ChangeSpec := { name := "railWhen", fn := fun _ => fun
  | [d1, d2, d3] => { results := [.lit (.bool true)], args := [d1, d2, d3] }
  | _ => none }
def railWhenRow : OpenClaim := { program := "ytcpkkjbkbdmopaa", sum := "923572853b72337e22404880fbe7e474dbd1501af25f035f2f44ed4d25d9a606", func := "dipworks/dipworkslaw11.RailWhen", spec := "railWhen", unfollowed := true, recurses := true, plainKeys := false, apart := false }
def RailWhenSaid : Prop := railWhenRow.holds Try.pinned (OpenSpec.ofChange railWhenSpec)

/-- ITS FALSE NEIGHBOUR: 'it returns false'. Refute it at one input. -/
def railWhenWrong : ChangeSpec := { name := "railWhen", fn := fun _ => fun
  | [d1, d2, d3] => { results := [.lit (.bool false)], args := [d1, d2, d3] }
  | _ => none }
def RailWhenWrongFalsely : Prop := railWhenRow.holds Try.pinned (OpenSpec.ofChange railWhenWrong)

/-- 'dipworkslaw11.RailMore': WHATEVER THE INPUT: true; the input reads as it did. -/
def railMoreSpec : ChangeSpec := { name := "railMore", fn := fun _ => fun
  | [d1, d2, d3, d4, d5] => { results := [.lit (.bool true)], args := [d1, d2, d3, d4, d5] }
  | _ => none }
def railMoreRow : OpenClaim := { program := "ytcpkkjbkbdmopaa", sum := "923572853b72337e22404880fbe7e474dbd1501af25f035f2f44ed4d25d9a606", func := "dipworks/dipworkslaw11.RailMore", spec := "railMore", unfollowed := true, recurses := true, plainKeys := false, apart := false }
def RailMoreSaid : Prop := railMoreRow.holds Try.pinned (OpenSpec.ofChange railMoreSpec)

/-- ITS FALSE NEIGHBOUR: 'it returns false'. Refute it at one input. -/
def railMoreWrong : ChangeSpec := { name := "railMore", fn := fun _ => fun
  | [d1, d2, d3, d4, d5] => { results := [.lit (.bool false)], args := [d1, d2, d3, d4, d5] }
  | _ => none }
def RailMoreWrongFalsely : Prop := railMoreRow.holds Try.pinned (OpenSpec.ofChange railMoreWrong)

/-- 'dipworkslaw11.RailOwes': WHATEVER THE INPUT: true; the input reads as it did. -/
def railOwesSpec : ChangeSpec := { name := "railOwes", fn := fun _ => fun
  | [d] => { results := [.lit (.bool true)], args := [d] }
  | _ => none }
def railOwesRow : OpenClaim := { program := "ytcpkkjbkbdmopaa", sum := "923572853b72337e22404880fbe7e474dbd1501af25f035f2f44ed4d25d9a606", func := "dipworks/dipworkslaw11.RailOwes", spec := "railOwes", unfollowed := true, recurses := true, plainKeys := false, apart := false }
def RailOwesSaid : Prop := railOwesRow.holds Try.pinned (OpenSpec.ofChange railOwesSpec)

/-- ITS FALSE NEIGHBOUR: 'it returns false'. Refute it at one input. -/
def railOwesWrong : ChangeSpec := { name := "railOwes", fn := fun _ => fun
  | [d] => { results := [.lit (.bool false)], args := [d] }
  | _ => none }
def RailOwesWrongFalsely : Prop := railOwesRow.holds Try.pinned (OpenSpec.ofChange railOwesWrong)

/- THE SECOND FORM. 'bulk': how many values and letters a reading holds, each counted each time it is reached (what is shared counts as often as it is met; a slice's spare places count too). A statement '..UptoSaid' is the law's where the arguments, and the package variables that the reading takes, are together of bulk at most 1048576: NARROWER than '..Said'. Prove '..Said' where nothing that the law and all that it calls make is longer than what came in: it says more and counts as full. Else prove '..UptoSaid'. A law counts once. -/
mutual
def uptoBulk {H : Type} : DataW H → Nat
  | .lit (.string bytes) => bytes.length + 1
  | .lit _ => 1
  | .nil => 1
  | .ptr d => uptoBulk d + 1
  | .slice elems spare => uptoBulkAll elems + uptoBulkAll spare + 1
  | .agg parts => uptoBulkAll parts + 1
  | .iface _ d => uptoBulk d + 1
  | .map entries => uptoBulkEntries entries + 1
  | .held _ => 1
def uptoBulkAll {H : Type} : List (DataW H) → Nat
  | [] => 0
  | d :: r => uptoBulk d + uptoBulkAll r
def uptoBulkEntries {H : Type} : List (Lit × DataW H) → Nat
  | [] => 0
  | x :: r => uptoBulkEntry x + uptoBulkEntries r
def uptoBulkEntry {H : Type} : Lit × DataW H → Nat
  | (.string bytes, d) => bytes.length + uptoBulk d + 1
  | (_, d) => uptoBulk d + 1
 end
def uptoSmall : (H : Type) → List (DataW H) → Bool := fun _ ds => decide (uptoBulkAll ds ≤ 1048576)
def OpenSpec.upto (s : _root_.Go.ChangeSpec) : _root_.Go.OpenSpec := { _root_.Go.OpenSpec.ofChange s with cond := some uptoSmall }

/-- 'dipworkstop.TopFound', WHERE WHAT IT READS IS OF BULK AT MOST 1048576: true; the input reads as it did. -/
def topFoundUptoRow : OpenClaim := { program := "ytcpkkjbkbdmopaa", sum := "923572853b72337e22404880fbe7e474dbd1501af25f035f2f44ed4d25d9a606", func := "dipworks/dipworkstop.TopFound", spec := "topFound", unfollowed := true, recurses := true, plainKeys := false, apart := false, narrowed := true }
def TopFoundUptoSaid : Prop := topFoundUptoRow.holds Try.pinned (OpenSpec.upto topFoundSpec)

/-- 'dipworkslaw11.RailTells', WHERE WHAT IT READS IS OF BULK AT MOST 1048576: true; the input reads as it did. -/
def railTellsUptoRow : OpenClaim := { program := "ytcpkkjbkbdmopaa", sum := "923572853b72337e22404880fbe7e474dbd1501af25f035f2f44ed4d25d9a606", func := "dipworks/dipworkslaw11.RailTells", spec := "railTells", unfollowed := true, recurses := true, plainKeys := false, apart := false, narrowed := true }
def RailTellsUptoSaid : Prop := railTellsUptoRow.holds Try.pinned (OpenSpec.upto railTellsSpec)

/-- 'dipworkslaw11.RailNames', WHERE WHAT IT READS IS OF BULK AT MOST 1048576: true; the input reads as it did. -/
def railNamesUptoRow : OpenClaim := { program := "ytcpkkjbkbdmopaa", sum := "923572853b72337e22404880fbe7e474dbd1501af25f035f2f44ed4d25d9a606", func := "dipworks/dipworkslaw11.RailNames", spec := "railNames", unfollowed := true, recurses := true, plainKeys := false, apart := false, narrowed := true }
def RailNamesUptoSaid : Prop := railNamesUptoRow.holds Try.pinned (OpenSpec.upto railNamesSpec)

/-- 'dipworkslaw11.RailTrue', WHERE WHAT IT READS IS OF BULK AT MOST 1048576: true; the input reads as it did. -/
def railTrueUptoRow : OpenClaim := { program := "ytcpkkjbkbdmopaa", sum := "923572853b72337e22404880fbe7e474dbd1501af25f035f2f44ed4d25d9a606", func := "dipworks/dipworkslaw11.RailTrue", spec := "railTrue", unfollowed := true, recurses := true, plainKeys := false, apart := false, narrowed := true }
def RailTrueUptoSaid : Prop := railTrueUptoRow.holds Try.pinned (OpenSpec.upto railTrueSpec)

/-- 'dipworkslaw11.RailEnds', WHERE WHAT IT READS IS OF BULK AT MOST 1048576: true; the input reads as it did. -/
def railEndsUptoRow : OpenClaim := { program := "ytcpkkjbkbdmopaa", sum := "923572853b72337e22404880fbe7e474dbd1501af25f035f2f44ed4d25d9a606", func := "dipworks/dipworkslaw11.RailEnds", spec := "railEnds", unfollowed := true, recurses := true, plainKeys := false, apart := false, narrowed := true }
def RailEndsUptoSaid : Prop := railEndsUptoRow.holds Try.pinned (OpenSpec.upto railEndsSpec)

/-- 'dipworkslaw11.RailLatest', WHERE WHAT IT READS IS OF BULK AT MOST 1048576: true; the input reads as it did. -/
def railLatestUptoRow : OpenClaim := { program := "ytcpkkjbkbdmopaa", sum := "923572853b72337e22404880fbe7e474dbd1501af25f035f2f44ed4d25d9a606", func := "dipworks/dipworkslaw11.RailLatest", spec := "railLatest", unfollowed := true, recurses := true, plainKeys := false, apart := false, narrowed := true }
def RailLatestUptoSaid : Prop := railLatestUptoRow.holds Try.pinned (OpenSpec.upto railLatestSpec)

/-- 'dipworkslaw11.RailWhen', WHERE WHAT IT READS IS OF BULK AT MOST 1048576: true; the input reads as it did. -/
def railWhenUptoRow : OpenClaim := { program := "ytcpkkjbkbdmopaa", sum := "923572853b72337e22404880fbe7e474dbd1501af25f035f2f44ed4d25d9a606", func := "dipworks/dipworkslaw11.RailWhen", spec := "railWhen", unfollowed := true, recurses := true, plainKeys := false, apart := false, narrowed := true }
def RailWhenUptoSaid : Prop := railWhenUptoRow.holds Try.pinned (OpenSpec.upto railWhenSpec)

/-- 'dipworkslaw11.RailMore', WHERE WHAT IT READS IS OF BULK AT MOST 1048576: true; the input reads as it did. -/
def railMoreUptoRow : OpenClaim := { program := "ytcpkkjbkbdmopaa", sum := "923572853b72337e22404880fbe7e474dbd1501af25f035f2f44ed4d25d9a606", func := "dipworks/dipworkslaw11.RailMore", spec := "railMore", unfollowed := true, recurses := true, plainKeys := false, apart := false, narrowed := true }
def RailMoreUptoSaid : Prop := railMoreUptoRow.holds Try.pinned (OpenSpec.upto railMoreSpec)

/-- 'dipworkslaw11.RailOwes', WHERE WHAT IT READS IS OF BULK AT MOST 1048576: true; the input reads as it did. -/
def railOwesUptoRow : OpenClaim := { program := "ytcpkkjbkbdmopaa", sum := "923572853b72337e22404880fbe7e474dbd1501af25f035f2f44ed4d25d9a606", func := "dipworks/dipworkslaw11.RailOwes", spec := "railOwes", unfollowed := true, recurses := true, plainKeys := false, apart := false, narrowed := true }
def RailOwesUptoSaid : Prop := railOwesUptoRow.holds Try.pinned (OpenSpec.upto railOwesSpec)

end Rows
end Go.Proofs.Ytcpkkjbkbdmopaa
