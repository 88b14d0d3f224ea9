/-
  No cell of these rows narrows 'for every input' (looked for: loops, veiled, ifaces, maps, wideKeys, modest, calm, conditions, laid).
  DERIVED. THE GIVEN ROWS OF THIS SEAT. 10 by the template 'for every input the law returns true; each argument reads behind the call as it read before'; 0 by the template 'total and deterministic' (their statements: YticdacdflemoiaaTotals.lean).
  GIVEN WITH THE SEED: the statements are not yours to turn. If you find one false, say at which input.
  Laid BY PROGRAM, IN A SANDBOX (cutbox-rows.mjs): the forced cells as the released guide's own fill.sh prints them over the translation d9faa130bd651208… (all of the seat's roots in one cut). By AI agents, Wed Nov 11 2026. No macro, syntax, notation, axiom, sorry.
-/
import Derived.Test.YticdacdflemoiaaChecked
import GoSem.Claim
import GoSem.ClaimJoined
import GoSem.ClaimMapViews
import Derived.JoinedTies
import Derived.KernelRfl
namespace Go.Proofs.Yticdacdflemoiaa
/- THE CELL 'sum', in the pinned program and in every row, IS THE sha256 OF THE DUMP (.gsa) THAT YticdacdflemoiaaProg.lean LOADS. Nothing in Lean hashes anything: it is a label: what it is worth is what the hold of that sum in a sandbox is worth. -/
noncomputable def Try.pinned : Pinned := { name := "yticdacdflemoiaa", sum := "d9faa130bd65120872c4a0a5e917b4fcaa506967ebf992db1107148603e9571f", checked := Try.checked }
namespace Rows
def none {H : Type} : Left H := { results := [], args := [] }

/-- 'dipworkslaw06.TowelReads': WHATEVER THE INPUT: true; the input reads as it did. -/
def towelReadsSpec : ChangeSpec := { name := "towelReads", fn := fun _ => fun
  | [d1, d2] => { results := [.lit (.bool true)], args := [d1, d2] }
  | _ => none }
def towelReadsRow : OpenClaim := { program := "yticdacdflemoiaa", sum := "d9faa130bd65120872c4a0a5e917b4fcaa506967ebf992db1107148603e9571f", func := "dipworks/dipworkslaw06.TowelReads", spec := "towelReads", unfollowed := true, recurses := true, plainKeys := false, apart := false }
def TowelReadsSaid : Prop := towelReadsRow.holds Try.pinned (OpenSpec.ofChange towelReadsSpec)

/-- ITS FALSE NEIGHBOUR: 'it returns false'. Refute it at one input. -/
def towelReadsWrong : ChangeSpec := { name := "towelReads", fn := fun _ => fun
  | [d1, d2] => { results := [.lit (.bool false)], args := [d1, d2] }
  | _ => none }
def TowelReadsWrongFalsely : Prop := towelReadsRow.holds Try.pinned (OpenSpec.ofChange towelReadsWrong)

/-- 'dipworkslaw06.TowelLooks': WHATEVER THE INPUT: true; the input reads as it did. -/
def towelLooksSpec : ChangeSpec := { name := "towelLooks", fn := fun _ => fun
  | [d] => { results := [.lit (.bool true)], args := [d] }
  | _ => none }
def towelLooksRow : OpenClaim := { program := "yticdacdflemoiaa", sum := "d9faa130bd65120872c4a0a5e917b4fcaa506967ebf992db1107148603e9571f", func := "dipworks/dipworkslaw06.TowelLooks", spec := "towelLooks", unfollowed := true, recurses := true, plainKeys := false, apart := false }
def TowelLooksSaid : Prop := towelLooksRow.holds Try.pinned (OpenSpec.ofChange towelLooksSpec)

/-- ITS FALSE NEIGHBOUR: 'it returns false'. Refute it at one input. -/
def towelLooksWrong : ChangeSpec := { name := "towelLooks", fn := fun _ => fun
  | [d] => { results := [.lit (.bool false)], args := [d] }
  | _ => none }
def TowelLooksWrongFalsely : Prop := towelLooksRow.holds Try.pinned (OpenSpec.ofChange towelLooksWrong)

/-- 'dipworkslaw06.TowelProves': WHATEVER THE INPUT: true; the input reads as it did. -/
def towelProvesSpec : ChangeSpec := { name := "towelProves", fn := fun _ => fun
  | [d] => { results := [.lit (.bool true)], args := [d] }
  | _ => none }
def towelProvesRow : OpenClaim := { program := "yticdacdflemoiaa", sum := "d9faa130bd65120872c4a0a5e917b4fcaa506967ebf992db1107148603e9571f", func := "dipworks/dipworkslaw06.TowelProves", spec := "towelProves", unfollowed := true, recurses := true, plainKeys := false, apart := false }
def TowelProvesSaid : Prop := towelProvesRow.holds Try.pinned (OpenSpec.ofChange towelProvesSpec)

/-- ITS FALSE NEIGHBOUR: 'it returns false'. Refute it at one input. -/
def towelProvesWrong : ChangeSpec := { name := "towelProves", fn := fun _ => fun
  | [d] => { results := [.lit (.bool false)], args := [d] }
  | _ => none }
def TowelProvesWrongFalsely : Prop := towelProvesRow.holds Try.pinned (OpenSpec.ofChange towelProvesWrong)

/-- 'dipworkslaw06.TowelTrue': WHATEVER THE INPUT: true; the input reads as it did. -/
def towelTrueSpec : ChangeSpec := { name := "towelTrue", fn := fun _ => fun
  | [d] => { results := [.lit (.bool true)], args := [d] }
  | _ => none }
def towelTrueRow : OpenClaim := { program := "yticdacdflemoiaa", sum := "d9faa130bd65120872c4a0a5e917b4fcaa506967ebf992db1107148603e9571f", func := "dipworks/dipworkslaw06.TowelTrue", spec := "towelTrue", unfollowed := true, recurses := true, plainKeys := false, apart := false }
def TowelTrueSaid : Prop := towelTrueRow.holds Try.pinned (OpenSpec.ofChange towelTrueSpec)

/-- ITS FALSE NEIGHBOUR: 'it returns false'. Refute it at one input. -/
def towelTrueWrong : ChangeSpec := { name := "towelTrue", fn := fun _ => fun
  | [d] => { results := [.lit (.bool false)], args := [d] }
  | _ => none }
def TowelTrueWrongFalsely : Prop := towelTrueRow.holds Try.pinned (OpenSpec.ofChange towelTrueWrong)

/-- 'dipworkslaw06.TowelEnds': WHATEVER THE INPUT: true; the input reads as it did. -/
def towelEndsSpec : ChangeSpec := { name := "towelEnds", fn := fun _ => fun
  | [d1, d2] => { results := [.lit (.bool true)], args := [d1, d2] }
  | _ => none }
def towelEndsRow : OpenClaim := { program := "yticdacdflemoiaa", sum := "d9faa130bd65120872c4a0a5e917b4fcaa506967ebf992db1107148603e9571f", func := "dipworks/dipworkslaw06.TowelEnds", spec := "towelEnds", unfollowed := true, recurses := true, plainKeys := false, apart := false }
def TowelEndsSaid : Prop := towelEndsRow.holds Try.pinned (OpenSpec.ofChange towelEndsSpec)

/-- ITS FALSE NEIGHBOUR: 'it returns false'. Refute it at one input. -/
def towelEndsWrong : ChangeSpec := { name := "towelEnds", fn := fun _ => fun
  | [d1, d2] => { results := [.lit (.bool false)], args := [d1, d2] }
  | _ => none }
def TowelEndsWrongFalsely : Prop := towelEndsRow.holds Try.pinned (OpenSpec.ofChange towelEndsWrong)

/-- 'dipworkslaw06.TowelFewest': WHATEVER THE INPUT: true; the input reads as it did. -/
def towelFewestSpec : ChangeSpec := { name := "towelFewest", fn := fun _ => fun
  | [d1, d2] => { results := [.lit (.bool true)], args := [d1, d2] }
  | _ => none }
def towelFewestRow : OpenClaim := { program := "yticdacdflemoiaa", sum := "d9faa130bd65120872c4a0a5e917b4fcaa506967ebf992db1107148603e9571f", func := "dipworks/dipworkslaw06.TowelFewest", spec := "towelFewest", unfollowed := true, recurses := true, plainKeys := false, apart := false }
def TowelFewestSaid : Prop := towelFewestRow.holds Try.pinned (OpenSpec.ofChange towelFewestSpec)

/-- ITS FALSE NEIGHBOUR: 'it returns false'. Refute it at one input. -/
def towelFewestWrong : ChangeSpec := { name := "towelFewest", fn := fun _ => fun
  | [d1, d2] => { results := [.lit (.bool false)], args := [d1, d2] }
  | _ => none }
def TowelFewestWrongFalsely : Prop := towelFewestRow.holds Try.pinned (OpenSpec.ofChange towelFewestWrong)

/-- 'dipworkslaw06.TowelSearch': WHATEVER THE INPUT: true; the input reads as it did. -/
def towelSearchSpec : ChangeSpec := { name := "towelSearch", fn := fun _ => fun
  | [d1, d2] => { results := [.lit (.bool true)], args := [d1, d2] }
  | _ => none }
def towelSearchRow : OpenClaim := { program := "yticdacdflemoiaa", sum := "d9faa130bd65120872c4a0a5e917b4fcaa506967ebf992db1107148603e9571f", func := "dipworks/dipworkslaw06.TowelSearch", spec := "towelSearch", unfollowed := true, recurses := true, plainKeys := false, apart := false }
def TowelSearchSaid : Prop := towelSearchRow.holds Try.pinned (OpenSpec.ofChange towelSearchSpec)

/-- ITS FALSE NEIGHBOUR: 'it returns false'. Refute it at one input. -/
def towelSearchWrong : ChangeSpec := { name := "towelSearch", fn := fun _ => fun
  | [d1, d2] => { results := [.lit (.bool false)], args := [d1, d2] }
  | _ => none }
def TowelSearchWrongFalsely : Prop := towelSearchRow.holds Try.pinned (OpenSpec.ofChange towelSearchWrong)

/-- 'dipworkslaw06.TowelClash': WHATEVER THE INPUT: true; the input reads as it did. -/
def towelClashSpec : ChangeSpec := { name := "towelClash", fn := fun _ => fun
  | [d1, d2] => { results := [.lit (.bool true)], args := [d1, d2] }
  | _ => none }
def towelClashRow : OpenClaim := { program := "yticdacdflemoiaa", sum := "d9faa130bd65120872c4a0a5e917b4fcaa506967ebf992db1107148603e9571f", func := "dipworks/dipworkslaw06.TowelClash", spec := "towelClash", unfollowed := true, recurses := true, plainKeys := false, apart := false }
def TowelClashSaid : Prop := towelClashRow.holds Try.pinned (OpenSpec.ofChange towelClashSpec)

/-- ITS FALSE NEIGHBOUR: 'it returns false'. Refute it at one input. -/
def towelClashWrong : ChangeSpec := { name := "towelClash", fn := fun _ => fun
  | [d1, d2] => { results := [.lit (.bool false)], args := [d1, d2] }
  | _ => none }
def TowelClashWrongFalsely : Prop := towelClashRow.holds Try.pinned (OpenSpec.ofChange towelClashWrong)

/-- 'dipworkslaw06.TowelMore': WHATEVER THE INPUT: true; the input reads as it did. -/
def towelMoreSpec : ChangeSpec := { name := "towelMore", fn := fun _ => fun
  | [d1, d2, d3] => { results := [.lit (.bool true)], args := [d1, d2, d3] }
  | _ => none }
def towelMoreRow : OpenClaim := { program := "yticdacdflemoiaa", sum := "d9faa130bd65120872c4a0a5e917b4fcaa506967ebf992db1107148603e9571f", func := "dipworks/dipworkslaw06.TowelMore", spec := "towelMore", unfollowed := true, recurses := true, plainKeys := false, apart := false }
def TowelMoreSaid : Prop := towelMoreRow.holds Try.pinned (OpenSpec.ofChange towelMoreSpec)

/-- ITS FALSE NEIGHBOUR: 'it returns false'. Refute it at one input. -/
def towelMoreWrong : ChangeSpec := { name := "towelMore", fn := fun _ => fun
  | [d1, d2, d3] => { results := [.lit (.bool false)], args := [d1, d2, d3] }
  | _ => none }
def TowelMoreWrongFalsely : Prop := towelMoreRow.holds Try.pinned (OpenSpec.ofChange towelMoreWrong)

/-- 'dipworkslaw06.TowelTurned': WHATEVER THE INPUT: true; the input reads as it did. -/
def towelTurnedSpec : ChangeSpec := { name := "towelTurned", fn := fun _ => fun
  | [d] => { results := [.lit (.bool true)], args := [d] }
  | _ => none }
def towelTurnedRow : OpenClaim := { program := "yticdacdflemoiaa", sum := "d9faa130bd65120872c4a0a5e917b4fcaa506967ebf992db1107148603e9571f", func := "dipworks/dipworkslaw06.TowelTurned", spec := "towelTurned", unfollowed := true, recurses := true, plainKeys := false, apart := false }
def TowelTurnedSaid : Prop := towelTurnedRow.holds Try.pinned (OpenSpec.ofChange towelTurnedSpec)

/-- ITS FALSE NEIGHBOUR: 'it returns false'. Refute it at one input. -/
def towelTurnedWrong : ChangeSpec := { name := "towelTurned", fn := fun _ => fun
  | [d] => { results := [.lit (.bool false)], args := [d] }
  | _ => none }
def TowelTurnedWrongFalsely : Prop := towelTurnedRow.holds Try.pinned (OpenSpec.ofChange towelTurnedWrong)

/- THE SECOND FORM. 'bulk': how many values and letters a reading holds, each counted each time it is reached (what is shared counts as often as it is met; a slice's spare places count too). A statement '..UptoSaid' is the law's where the arguments, and the package variables that the reading takes, are together of bulk at most 1048576: NARROWER than '..Said'. Prove '..Said' where nothing that the law and all that it calls make is longer than what came in: it says more and counts as full. Else prove '..UptoSaid'. A law counts once. -/
mutual
def uptoBulk {H : Type} : DataW H → Nat
  | .lit (.string bytes) => bytes.length + 1
  | .lit _ => 1
  | .nil => 1
  | .ptr d => uptoBulk d + 1
  | .slice elems spare => uptoBulkAll elems + uptoBulkAll spare + 1
  | .agg parts => uptoBulkAll parts + 1
  | .iface _ d => uptoBulk d + 1
  | .map entries => uptoBulkEntries entries + 1
  | .held _ => 1
def uptoBulkAll {H : Type} : List (DataW H) → Nat
  | [] => 0
  | d :: r => uptoBulk d + uptoBulkAll r
def uptoBulkEntries {H : Type} : List (Lit × DataW H) → Nat
  | [] => 0
  | x :: r => uptoBulkEntry x + uptoBulkEntries r
def uptoBulkEntry {H : Type} : Lit × DataW H → Nat
  | (.string bytes, d) => bytes.length + uptoBulk d + 1
  | (_, d) => uptoBulk d + 1
 end
def uptoSmall : (H : Type) → List (DataW H) → Bool := fun _ ds => decide (uptoBulkAll ds ≤ 1048576)
def OpenSpec.upto (s : _root_.Go.ChangeSpec) : _root_.Go.OpenSpec := { _root_.Go.OpenSpec.ofChange s with cond := some uptoSmall }

/-- 'dipworkslaw06.TowelReads', WHERE WHAT IT READS IS OF BULK AT MOST 1048576: true; the input reads as it did. -/
def towelReadsUptoRow : OpenClaim := { program := "yticdacdflemoiaa", sum := "d9faa130bd65120872c4a0a5e917b4fcaa506967ebf992db1107148603e9571f", func := "dipworks/dipworkslaw06.TowelReads", spec := "towelReads", unfollowed := true, recurses := true, plainKeys := false, apart := false, narrowed := true }
def TowelReadsUptoSaid : Prop := towelReadsUptoRow.holds Try.pinned (OpenSpec.upto towelReadsSpec)

/-- 'dipworkslaw06.TowelLooks', WHERE WHAT IT READS IS OF BULK AT MOST 1048576: true; the input reads as it did. -/
def towelLooksUptoRow : OpenClaim := { program := "yticdacdflemoiaa", sum := "d9faa130bd65120872c4a0a5e917b4fcaa506967ebf992db1107148603e9571f", func := "dipworks/dipworkslaw06.TowelLooks", spec := "towelLooks", unfollowed := true, recurses := true, plainKeys := false, apart := false, narrowed := true }
def TowelLooksUptoSaid : Prop := towelLooksUptoRow.holds Try.pinned (OpenSpec.upto towelLooksSpec)

/-- 'dipworkslaw06.TowelProves', WHERE WHAT IT READS IS OF BULK AT MOST 1048576: true; the input reads as it did. -/
def towelProvesUptoRow : OpenClaim := { program := "yticdacdflemoiaa", sum := "d9faa130bd65120872c4a0a5e917b4fcaa506967ebf992db1107148603e9571f", func := "dipworks/dipworkslaw06.TowelProves", spec := "towelProves", unfollowed := true, recurses := true, plainKeys := false, apart := false, narrowed := true }
def TowelProvesUptoSaid : Prop := towelProvesUptoRow.holds Try.pinned (OpenSpec.upto towelProvesSpec)

/-- 'dipworkslaw06.TowelTrue', WHERE WHAT IT READS IS OF BULK AT MOST 1048576: true; the input reads as it did. -/
def towelTrueUptoRow : OpenClaim := { program := "yticdacdflemoiaa", sum := "d9faa130bd65120872c4a0a5e917b4fcaa506967ebf992db1107148603e9571f", func := "dipworks/dipworkslaw06.TowelTrue", spec := "towelTrue", unfollowed := true, recurses := true, plainKeys := false, apart := false, narrowed := true }
def TowelTrueUptoSaid : Prop := towelTrueUptoRow.holds Try.pinned (OpenSpec.upto towelTrueSpec)

/-- 'dipworkslaw06.TowelEnds', WHERE WHAT IT READS IS OF BULK AT MOST 1048576: true; the input reads as it did. -/
def towelEndsUptoRow : OpenClaim := { program := "yticdacdflemoiaa", sum := "d9faa130bd65120872c4a0a5e917b4fcaa506967ebf992db1107148603e9571f", func := "dipworks/dipworkslaw06.TowelEnds", spec := "towelEnds", unfollowed := true, recurses := true, plainKeys := false, apart := false, narrowed := true }
def TowelEndsUptoSaid : Prop := towelEndsUptoRow.holds Try.pinned (OpenSpec.upto towelEndsSpec)

/-- 'dipworkslaw06.TowelFewest', WHERE WHAT IT READS IS OF BULK AT MOST 1048576: true; the input reads as it did. -/
def towelFewestUptoRow : OpenClaim := { program := "yticdacdflemoiaa", sum := "d9faa130bd65120872c4a0a5e917b4fcaa506967ebf992db1107148603e9571f", func := "dipworks/dipworkslaw06.TowelFewest", spec := "towelFewest", unfollowed := true, recurses := true, plainKeys := false, apart := false, narrowed := true }
def TowelFewestUptoSaid : Prop := towelFewestUptoRow.holds Try.pinned (OpenSpec.upto towelFewestSpec)

/-- 'dipworkslaw06.TowelSearch', WHERE WHAT IT READS IS OF BULK AT MOST 1048576: true; the input reads as it did. -/
def towelSearchUptoRow : OpenClaim := { program := "yticdacdflemoiaa", sum := "d9faa130bd65120872c4a0a5e917b4fcaa506967ebf992db1107148603e9571f", func := "dipworks/dipworkslaw06.TowelSearch", spec := "towelSearch", unfollowed := true, recurses := true, plainKeys := false, apart := false, narrowed := true }
def TowelSearchUptoSaid : Prop := towelSearchUptoRow.holds Try.pinned (OpenSpec.upto towelSearchSpec)

/-- 'dipworkslaw06.TowelClash', WHERE WHAT IT READS IS OF BULK AT MOST 1048576: true; the input reads as it did. -/
def towelClashUptoRow : OpenClaim := { program := "yticdacdflemoiaa", sum := "d9faa130bd65120872c4a0a5e917b4fcaa506967ebf992db1107148603e9571f", func := "dipworks/dipworkslaw06.TowelClash", spec := "towelClash", unfollowed := true, recurses := true, plainKeys := false, apart := false, narrowed := true }
def TowelClashUptoSaid : Prop := towelClashUptoRow.holds Try.pinned (OpenSpec.upto towelClashSpec)

/-- 'dipworkslaw06.TowelMore', WHERE WHAT IT READS IS OF BULK AT MOST 1048576: true; the input reads as it did. -/
def towelMoreUptoRow : OpenClaim := { program := "yticdacdflemoiaa", sum := "d9faa130bd65120872c4a0a5e917b4fcaa506967ebf992db1107148603e9571f", func := "dipworks/dipworkslaw06.TowelMore", spec := "towelMore", unfollowed := true, recurses := true, plainKeys := false, apart := false, narrowed := true }
def TowelMoreUptoSaid : Prop := towelMoreUptoRow.holds Try.pinned (OpenSpec.upto towelMoreSpec)

/-- 'dipworkslaw06.TowelTurned', WHERE WHAT IT READS IS OF BULK AT MOST 1048576: true; the input reads as it did. -/
def towelTurnedUptoRow : OpenClaim := { program := "yticdacdflemoiaa", sum := "d9faa130bd65120872c4a0a5e917b4fcaa506967ebf992db1107148603e9571f", func := "dipworks/dipworkslaw06.TowelTurned", spec := "towelTurned", unfollowed := true, recurses := true, plainKeys := false, apart := false, narrowed := true }
def TowelTurnedUptoSaid : Prop := towelTurnedUptoRow.holds Try.pinned (OpenSpec.upto towelTurnedSpec)

end Rows
end Go.Proofs.Yticdacdflemoiaa
