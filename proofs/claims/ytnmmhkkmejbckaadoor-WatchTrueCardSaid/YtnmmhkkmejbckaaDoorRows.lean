/-
  NARROWER THAN 'FOR EVERY INPUT', by the rows' own cells (each row's printed sentence says how): WatchNames: laid · WatchTrue: laid · WatchShows: laid · WatchStopped: laid · WatchCan: laid · WatchClash: laid · WatchMore: laid · WatchTurned: laid.
  DERIVED. THE GIVEN ROWS OF THIS SEAT. 8 by the template 'for every input the law returns true; each argument reads behind the call as it read before'; 0 by the template 'total and deterministic' (their statements: YtnmmhkkmejbckaaDoorTotals.lean).
  GIVEN WITH THE SEED: the statements are not yours to turn. If you find one false, say at which input.
  Laid BY PROGRAM, IN A SANDBOX (cutbox-rows.mjs): the forced cells as the released guide's own fill.sh prints them over the translation 1e487a005f0a815c… (all of the seat's roots in one cut). By AI agents, Wed Nov 11 2026. No macro, syntax, notation, axiom, sorry.
-/
import Derived.Test.YtnmmhkkmejbckaaDoorChecked
import GoSem.Claim
import GoSem.ClaimJoined
import GoSem.ClaimMapViews
import Derived.JoinedTies
import Derived.KernelRfl
namespace Go.Proofs.YtnmmhkkmejbckaaDoor
/- THE CELL 'sum', in the pinned program and in every row, IS THE sha256 OF THE DUMP (.gsa) THAT YtnmmhkkmejbckaaDoorProg.lean LOADS. Nothing in Lean hashes anything: it is a label: what it is worth is what the hold of that sum in a sandbox is worth. -/
noncomputable def Tryd.pinned : Pinned := { name := "ytnmmhkkmejbckaadoor", sum := "1e487a005f0a815cb21c3a517ae6b77da2547f28da2c00297b7e974b9524a1b1", checked := Tryd.checked }
namespace Rows
def none {H : Type} : Left H := { results := [], args := [] }

/- WHAT THE LISTED PACKAGE-LEVEL VARIABLES READ AS WHEN THE CALL BEGINS. Each datum BY PROGRAM (the guide's laid-datum.mjs) off the statement by which the dump's own 'gosem.cut.vars' lays the variable. In a bare row this is a premise. The card (YtnmmhkkmejbckaaDoorCards.lean) ties it to the program's text. -/
def laid_math_bits_deBruijn32tab {H : Type} : DataW H := .agg [.lit (.int .u8 0), .lit (.int .u8 1), .lit (.int .u8 28), .lit (.int .u8 2), .lit (.int .u8 29), .lit (.int .u8 14), .lit (.int .u8 24), .lit (.int .u8 3), .lit (.int .u8 30), .lit (.int .u8 22), .lit (.int .u8 20), .lit (.int .u8 15), .lit (.int .u8 25), .lit (.int .u8 17), .lit (.int .u8 4), .lit (.int .u8 8), .lit (.int .u8 31), .lit (.int .u8 27), .lit (.int .u8 13), .lit (.int .u8 23), .lit (.int .u8 21), .lit (.int .u8 19), .lit (.int .u8 16), .lit (.int .u8 7), .lit (.int .u8 26), .lit (.int .u8 12), .lit (.int .u8 18), .lit (.int .u8 6), .lit (.int .u8 11), .lit (.int .u8 5), .lit (.int .u8 10), .lit (.int .u8 9)]
def laid_math_bits_deBruijn64tab {H : Type} : DataW H := .agg [.lit (.int .u8 0), .lit (.int .u8 1), .lit (.int .u8 56), .lit (.int .u8 2), .lit (.int .u8 57), .lit (.int .u8 49), .lit (.int .u8 28), .lit (.int .u8 3), .lit (.int .u8 61), .lit (.int .u8 58), .lit (.int .u8 42), .lit (.int .u8 50), .lit (.int .u8 38), .lit (.int .u8 29), .lit (.int .u8 17), .lit (.int .u8 4), .lit (.int .u8 62), .lit (.int .u8 47), .lit (.int .u8 59), .lit (.int .u8 36), .lit (.int .u8 45), .lit (.int .u8 43), .lit (.int .u8 51), .lit (.int .u8 22), .lit (.int .u8 53), .lit (.int .u8 39), .lit (.int .u8 33), .lit (.int .u8 30), .lit (.int .u8 24), .lit (.int .u8 18), .lit (.int .u8 12), .lit (.int .u8 5), .lit (.int .u8 63), .lit (.int .u8 55), .lit (.int .u8 48), .lit (.int .u8 27), .lit (.int .u8 60), .lit (.int .u8 41), .lit (.int .u8 37), .lit (.int .u8 16), .lit (.int .u8 46), .lit (.int .u8 35), .lit (.int .u8 44), .lit (.int .u8 21), .lit (.int .u8 52), .lit (.int .u8 32), .lit (.int .u8 23), .lit (.int .u8 11), .lit (.int .u8 54), .lit (.int .u8 26), .lit (.int .u8 40), .lit (.int .u8 15), .lit (.int .u8 34), .lit (.int .u8 20), .lit (.int .u8 31), .lit (.int .u8 10), .lit (.int .u8 25), .lit (.int .u8 14), .lit (.int .u8 19), .lit (.int .u8 9), .lit (.int .u8 13), .lit (.int .u8 8), .lit (.int .u8 7), .lit (.int .u8 6)]

/-- 'dipworkslaw07.WatchNames': WHATEVER THE INPUT: true; the input reads as it did. -/
def watchNamesSpec : ChangeSpec := { name := "watchNames", fn := fun _ => fun
  | [] => { results := [.lit (.bool true)], args := [] }
  | _ => none }
def watchNamesRow : OpenClaim := { program := "ytnmmhkkmejbckaadoor", sum := "1e487a005f0a815cb21c3a517ae6b77da2547f28da2c00297b7e974b9524a1b1", func := "dipworks/dipworkslaw07.WatchNames", spec := "watchNames", unfollowed := true, recurses := true, named := ["math/bits.deBruijn32tab", "math/bits.deBruijn64tab"], plainKeys := false, apart := false, laid := [("math/bits.deBruijn32tab", laid_math_bits_deBruijn32tab), ("math/bits.deBruijn64tab", laid_math_bits_deBruijn64tab)] }
def WatchNamesSaid : Prop := watchNamesRow.holds Tryd.pinned (OpenSpec.ofChange watchNamesSpec)

/-- ITS FALSE NEIGHBOUR: 'it returns false'. Refute it at one input. -/
def watchNamesWrong : ChangeSpec := { name := "watchNames", fn := fun _ => fun
  | [] => { results := [.lit (.bool false)], args := [] }
  | _ => none }
def WatchNamesWrongFalsely : Prop := watchNamesRow.holds Tryd.pinned (OpenSpec.ofChange watchNamesWrong)

/-- 'dipworkslaw07.WatchTrue': WHATEVER THE INPUT: true; the input reads as it did. -/
def watchTrueSpec : ChangeSpec := { name := "watchTrue", fn := fun _ => fun
  | [d] => { results := [.lit (.bool true)], args := [d] }
  | _ => none }
def watchTrueRow : OpenClaim := { program := "ytnmmhkkmejbckaadoor", sum := "1e487a005f0a815cb21c3a517ae6b77da2547f28da2c00297b7e974b9524a1b1", func := "dipworks/dipworkslaw07.WatchTrue", spec := "watchTrue", unfollowed := true, recurses := true, named := ["math/bits.deBruijn32tab", "math/bits.deBruijn64tab"], plainKeys := false, apart := false, laid := [("math/bits.deBruijn32tab", laid_math_bits_deBruijn32tab), ("math/bits.deBruijn64tab", laid_math_bits_deBruijn64tab)] }
def WatchTrueSaid : Prop := watchTrueRow.holds Tryd.pinned (OpenSpec.ofChange watchTrueSpec)

/-- ITS FALSE NEIGHBOUR: 'it returns false'. Refute it at one input. -/
def watchTrueWrong : ChangeSpec := { name := "watchTrue", fn := fun _ => fun
  | [d] => { results := [.lit (.bool false)], args := [d] }
  | _ => none }
def WatchTrueWrongFalsely : Prop := watchTrueRow.holds Tryd.pinned (OpenSpec.ofChange watchTrueWrong)

/-- 'dipworkslaw07.WatchShows': WHATEVER THE INPUT: true; the input reads as it did. -/
def watchShowsSpec : ChangeSpec := { name := "watchShows", fn := fun _ => fun
  | [d1, d2, d3] => { results := [.lit (.bool true)], args := [d1, d2, d3] }
  | _ => none }
def watchShowsRow : OpenClaim := { program := "ytnmmhkkmejbckaadoor", sum := "1e487a005f0a815cb21c3a517ae6b77da2547f28da2c00297b7e974b9524a1b1", func := "dipworks/dipworkslaw07.WatchShows", spec := "watchShows", unfollowed := true, recurses := true, named := ["math/bits.deBruijn32tab", "math/bits.deBruijn64tab"], plainKeys := false, apart := false, laid := [("math/bits.deBruijn32tab", laid_math_bits_deBruijn32tab), ("math/bits.deBruijn64tab", laid_math_bits_deBruijn64tab)] }
def WatchShowsSaid : Prop := watchShowsRow.holds Tryd.pinned (OpenSpec.ofChange watchShowsSpec)

/-- ITS FALSE NEIGHBOUR: 'it returns false'. Refute it at one input. -/
def watchShowsWrong : ChangeSpec := { name := "watchShows", fn := fun _ => fun
  | [d1, d2, d3] => { results := [.lit (.bool false)], args := [d1, d2, d3] }
  | _ => none }
def WatchShowsWrongFalsely : Prop := watchShowsRow.holds Tryd.pinned (OpenSpec.ofChange watchShowsWrong)

/-- 'dipworkslaw07.WatchStopped': WHATEVER THE INPUT: true; the input reads as it did. -/
def watchStoppedSpec : ChangeSpec := { name := "watchStopped", fn := fun _ => fun
  | [d1, d2, d3] => { results := [.lit (.bool true)], args := [d1, d2, d3] }
  | _ => none }
def watchStoppedRow : OpenClaim := { program := "ytnmmhkkmejbckaadoor", sum := "1e487a005f0a815cb21c3a517ae6b77da2547f28da2c00297b7e974b9524a1b1", func := "dipworks/dipworkslaw07.WatchStopped", spec := "watchStopped", unfollowed := true, recurses := true, named := ["math/bits.deBruijn32tab", "math/bits.deBruijn64tab"], plainKeys := false, apart := false, laid := [("math/bits.deBruijn32tab", laid_math_bits_deBruijn32tab), ("math/bits.deBruijn64tab", laid_math_bits_deBruijn64tab)] }
def WatchStoppedSaid : Prop := watchStoppedRow.holds Tryd.pinned (OpenSpec.ofChange watchStoppedSpec)

/-- ITS FALSE NEIGHBOUR: 'it returns false'. Refute it at one input. -/
def watchStoppedWrong : ChangeSpec := { name := "watchStopped", fn := fun _ => fun
  | [d1, d2, d3] => { results := [.lit (.bool false)], args := [d1, d2, d3] }
  | _ => none }
def WatchStoppedWrongFalsely : Prop := watchStoppedRow.holds Tryd.pinned (OpenSpec.ofChange watchStoppedWrong)

/-- 'dipworkslaw07.WatchCan': WHATEVER THE INPUT: true; the input reads as it did. -/
def watchCanSpec : ChangeSpec := { name := "watchCan", fn := fun _ => fun
  | [d1, d2] => { results := [.lit (.bool true)], args := [d1, d2] }
  | _ => none }
def watchCanRow : OpenClaim := { program := "ytnmmhkkmejbckaadoor", sum := "1e487a005f0a815cb21c3a517ae6b77da2547f28da2c00297b7e974b9524a1b1", func := "dipworks/dipworkslaw07.WatchCan", spec := "watchCan", unfollowed := true, recurses := true, named := ["math/bits.deBruijn32tab", "math/bits.deBruijn64tab"], plainKeys := false, apart := false, laid := [("math/bits.deBruijn32tab", laid_math_bits_deBruijn32tab), ("math/bits.deBruijn64tab", laid_math_bits_deBruijn64tab)] }
def WatchCanSaid : Prop := watchCanRow.holds Tryd.pinned (OpenSpec.ofChange watchCanSpec)

/-- ITS FALSE NEIGHBOUR: 'it returns false'. Refute it at one input. -/
def watchCanWrong : ChangeSpec := { name := "watchCan", fn := fun _ => fun
  | [d1, d2] => { results := [.lit (.bool false)], args := [d1, d2] }
  | _ => none }
def WatchCanWrongFalsely : Prop := watchCanRow.holds Tryd.pinned (OpenSpec.ofChange watchCanWrong)

/-- 'dipworkslaw07.WatchClash': WHATEVER THE INPUT: true; the input reads as it did. -/
def watchClashSpec : ChangeSpec := { name := "watchClash", fn := fun _ => fun
  | [d1, d2] => { results := [.lit (.bool true)], args := [d1, d2] }
  | _ => none }
def watchClashRow : OpenClaim := { program := "ytnmmhkkmejbckaadoor", sum := "1e487a005f0a815cb21c3a517ae6b77da2547f28da2c00297b7e974b9524a1b1", func := "dipworks/dipworkslaw07.WatchClash", spec := "watchClash", unfollowed := true, recurses := true, named := ["math/bits.deBruijn32tab", "math/bits.deBruijn64tab"], plainKeys := false, apart := false, laid := [("math/bits.deBruijn32tab", laid_math_bits_deBruijn32tab), ("math/bits.deBruijn64tab", laid_math_bits_deBruijn64tab)] }
def WatchClashSaid : Prop := watchClashRow.holds Tryd.pinned (OpenSpec.ofChange watchClashSpec)

/-- ITS FALSE NEIGHBOUR: 'it returns false'. Refute it at one input. -/
def watchClashWrong : ChangeSpec := { name := "watchClash", fn := fun _ => fun
  | [d1, d2] => { results := [.lit (.bool false)], args := [d1, d2] }
  | _ => none }
def WatchClashWrongFalsely : Prop := watchClashRow.holds Tryd.pinned (OpenSpec.ofChange watchClashWrong)

/-- 'dipworkslaw07.WatchMore': WHATEVER THE INPUT: true; the input reads as it did. -/
def watchMoreSpec : ChangeSpec := { name := "watchMore", fn := fun _ => fun
  | [d1, d2, d3, d4] => { results := [.lit (.bool true)], args := [d1, d2, d3, d4] }
  | _ => none }
def watchMoreRow : OpenClaim := { program := "ytnmmhkkmejbckaadoor", sum := "1e487a005f0a815cb21c3a517ae6b77da2547f28da2c00297b7e974b9524a1b1", func := "dipworks/dipworkslaw07.WatchMore", spec := "watchMore", unfollowed := true, recurses := true, named := ["math/bits.deBruijn32tab", "math/bits.deBruijn64tab"], plainKeys := false, apart := false, laid := [("math/bits.deBruijn32tab", laid_math_bits_deBruijn32tab), ("math/bits.deBruijn64tab", laid_math_bits_deBruijn64tab)] }
def WatchMoreSaid : Prop := watchMoreRow.holds Tryd.pinned (OpenSpec.ofChange watchMoreSpec)

/-- ITS FALSE NEIGHBOUR: 'it returns false'. Refute it at one input. -/
def watchMoreWrong : ChangeSpec := { name := "watchMore", fn := fun _ => fun
  | [d1, d2, d3, d4] => { results := [.lit (.bool false)], args := [d1, d2, d3, d4] }
  | _ => none }
def WatchMoreWrongFalsely : Prop := watchMoreRow.holds Tryd.pinned (OpenSpec.ofChange watchMoreWrong)

/-- 'dipworkslaw07.WatchTurned': WHATEVER THE INPUT: true; the input reads as it did. -/
def watchTurnedSpec : ChangeSpec := { name := "watchTurned", fn := fun _ => fun
  | [d] => { results := [.lit (.bool true)], args := [d] }
  | _ => none }
def watchTurnedRow : OpenClaim := { program := "ytnmmhkkmejbckaadoor", sum := "1e487a005f0a815cb21c3a517ae6b77da2547f28da2c00297b7e974b9524a1b1", func := "dipworks/dipworkslaw07.WatchTurned", spec := "watchTurned", unfollowed := true, recurses := true, named := ["math/bits.deBruijn32tab", "math/bits.deBruijn64tab"], plainKeys := false, apart := false, laid := [("math/bits.deBruijn32tab", laid_math_bits_deBruijn32tab), ("math/bits.deBruijn64tab", laid_math_bits_deBruijn64tab)] }
def WatchTurnedSaid : Prop := watchTurnedRow.holds Tryd.pinned (OpenSpec.ofChange watchTurnedSpec)

/-- ITS FALSE NEIGHBOUR: 'it returns false'. Refute it at one input. -/
def watchTurnedWrong : ChangeSpec := { name := "watchTurned", fn := fun _ => fun
  | [d] => { results := [.lit (.bool false)], args := [d] }
  | _ => none }
def WatchTurnedWrongFalsely : Prop := watchTurnedRow.holds Tryd.pinned (OpenSpec.ofChange watchTurnedWrong)

/- THE SECOND FORM. 'bulk': how many values and letters a reading holds, each counted each time it is reached (what is shared counts as often as it is met; a slice's spare places count too). A statement '..UptoSaid' is the law's where the arguments, and the package variables that the reading takes, are together of bulk at most 1048576: NARROWER than '..Said'. Prove '..Said' where nothing that the law and all that it calls make is longer than what came in: it says more and counts as full. Else prove '..UptoSaid'. A law counts once. -/
mutual
def uptoBulk {H : Type} : DataW H → Nat
  | .lit (.string bytes) => bytes.length + 1
  | .lit _ => 1
  | .nil => 1
  | .ptr d => uptoBulk d + 1
  | .slice elems spare => uptoBulkAll elems + uptoBulkAll spare + 1
  | .agg parts => uptoBulkAll parts + 1
  | .iface _ d => uptoBulk d + 1
  | .map entries => uptoBulkEntries entries + 1
  | .held _ => 1
def uptoBulkAll {H : Type} : List (DataW H) → Nat
  | [] => 0
  | d :: r => uptoBulk d + uptoBulkAll r
def uptoBulkEntries {H : Type} : List (Lit × DataW H) → Nat
  | [] => 0
  | x :: r => uptoBulkEntry x + uptoBulkEntries r
def uptoBulkEntry {H : Type} : Lit × DataW H → Nat
  | (.string bytes, d) => bytes.length + uptoBulk d + 1
  | (_, d) => uptoBulk d + 1
 end
def uptoSmall : (H : Type) → List (DataW H) → Bool := fun _ ds => decide (uptoBulkAll ds ≤ 1048576)
def OpenSpec.upto (s : _root_.Go.ChangeSpec) : _root_.Go.OpenSpec := { _root_.Go.OpenSpec.ofChange s with cond := some uptoSmall }

/-- 'dipworkslaw07.WatchNames', WHERE WHAT IT READS IS OF BULK AT MOST 1048576: true; the input reads as it did. -/
def watchNamesUptoRow : OpenClaim := { program := "ytnmmhkkmejbckaadoor", sum := "1e487a005f0a815cb21c3a517ae6b77da2547f28da2c00297b7e974b9524a1b1", func := "dipworks/dipworkslaw07.WatchNames", spec := "watchNames", unfollowed := true, recurses := true, named := ["math/bits.deBruijn32tab", "math/bits.deBruijn64tab"], plainKeys := false, apart := false, laid := [("math/bits.deBruijn32tab", laid_math_bits_deBruijn32tab), ("math/bits.deBruijn64tab", laid_math_bits_deBruijn64tab)], narrowed := true }
def WatchNamesUptoSaid : Prop := watchNamesUptoRow.holds Tryd.pinned (OpenSpec.upto watchNamesSpec)

/-- 'dipworkslaw07.WatchTrue', WHERE WHAT IT READS IS OF BULK AT MOST 1048576: true; the input reads as it did. -/
def watchTrueUptoRow : OpenClaim := { program := "ytnmmhkkmejbckaadoor", sum := "1e487a005f0a815cb21c3a517ae6b77da2547f28da2c00297b7e974b9524a1b1", func := "dipworks/dipworkslaw07.WatchTrue", spec := "watchTrue", unfollowed := true, recurses := true, named := ["math/bits.deBruijn32tab", "math/bits.deBruijn64tab"], plainKeys := false, apart := false, laid := [("math/bits.deBruijn32tab", laid_math_bits_deBruijn32tab), ("math/bits.deBruijn64tab", laid_math_bits_deBruijn64tab)], narrowed := true }
def WatchTrueUptoSaid : Prop := watchTrueUptoRow.holds Tryd.pinned (OpenSpec.upto watchTrueSpec)

/-- 'dipworkslaw07.WatchShows', WHERE WHAT IT READS IS OF BULK AT MOST 1048576: true; the input reads as it did. -/
def watchShowsUptoRow : OpenClaim := { program := "ytnmmhkkmejbckaadoor", sum := "1e487a005f0a815cb21c3a517ae6b77da2547f28da2c00297b7e974b9524a1b1", func := "dipworks/dipworkslaw07.WatchShows", spec := "watchShows", unfollowed := true, recurses := true, named := ["math/bits.deBruijn32tab", "math/bits.deBruijn64tab"], plainKeys := false, apart := false, laid := [("math/bits.deBruijn32tab", laid_math_bits_deBruijn32tab), ("math/bits.deBruijn64tab", laid_math_bits_deBruijn64tab)], narrowed := true }
def WatchShowsUptoSaid : Prop := watchShowsUptoRow.holds Tryd.pinned (OpenSpec.upto watchShowsSpec)

/-- 'dipworkslaw07.WatchStopped', WHERE WHAT IT READS IS OF BULK AT MOST 1048576: true; the input reads as it did. -/
def watchStoppedUptoRow : OpenClaim := { program := "ytnmmhkkmejbckaadoor", sum := "1e487a005f0a815cb21c3a517ae6b77da2547f28da2c00297b7e974b9524a1b1", func := "dipworks/dipworkslaw07.WatchStopped", spec := "watchStopped", unfollowed := true, recurses := true, named := ["math/bits.deBruijn32tab", "math/bits.deBruijn64tab"], plainKeys := false, apart := false, laid := [("math/bits.deBruijn32tab", laid_math_bits_deBruijn32tab), ("math/bits.deBruijn64tab", laid_math_bits_deBruijn64tab)], narrowed := true }
def WatchStoppedUptoSaid : Prop := watchStoppedUptoRow.holds Tryd.pinned (OpenSpec.upto watchStoppedSpec)

/-- 'dipworkslaw07.WatchCan', WHERE WHAT IT READS IS OF BULK AT MOST 1048576: true; the input reads as it did. -/
def watchCanUptoRow : OpenClaim := { program := "ytnmmhkkmejbckaadoor", sum := "1e487a005f0a815cb21c3a517ae6b77da2547f28da2c00297b7e974b9524a1b1", func := "dipworks/dipworkslaw07.WatchCan", spec := "watchCan", unfollowed := true, recurses := true, named := ["math/bits.deBruijn32tab", "math/bits.deBruijn64tab"], plainKeys := false, apart := false, laid := [("math/bits.deBruijn32tab", laid_math_bits_deBruijn32tab), ("math/bits.deBruijn64tab", laid_math_bits_deBruijn64tab)], narrowed := true }
def WatchCanUptoSaid : Prop := watchCanUptoRow.holds Tryd.pinned (OpenSpec.upto watchCanSpec)

/-- 'dipworkslaw07.WatchClash', WHERE WHAT IT READS IS OF BULK AT MOST 1048576: true; the input reads as it did. -/
def watchClashUptoRow : OpenClaim := { program := "ytnmmhkkmejbckaadoor", sum := "1e487a005f0a815cb21c3a517ae6b77da2547f28da2c00297b7e974b9524a1b1", func := "dipworks/dipworkslaw07.WatchClash", spec := "watchClash", unfollowed := true, recurses := true, named := ["math/bits.deBruijn32tab", "math/bits.deBruijn64tab"], plainKeys := false, apart := false, laid := [("math/bits.deBruijn32tab", laid_math_bits_deBruijn32tab), ("math/bits.deBruijn64tab", laid_math_bits_deBruijn64tab)], narrowed := true }
def WatchClashUptoSaid : Prop := watchClashUptoRow.holds Tryd.pinned (OpenSpec.upto watchClashSpec)

/-- 'dipworkslaw07.WatchMore', WHERE WHAT IT READS IS OF BULK AT MOST 1048576: true; the input reads as it did. -/
def watchMoreUptoRow : OpenClaim := { program := "ytnmmhkkmejbckaadoor", sum := "1e487a005f0a815cb21c3a517ae6b77da2547f28da2c00297b7e974b9524a1b1", func := "dipworks/dipworkslaw07.WatchMore", spec := "watchMore", unfollowed := true, recurses := true, named := ["math/bits.deBruijn32tab", "math/bits.deBruijn64tab"], plainKeys := false, apart := false, laid := [("math/bits.deBruijn32tab", laid_math_bits_deBruijn32tab), ("math/bits.deBruijn64tab", laid_math_bits_deBruijn64tab)], narrowed := true }
def WatchMoreUptoSaid : Prop := watchMoreUptoRow.holds Tryd.pinned (OpenSpec.upto watchMoreSpec)

/-- 'dipworkslaw07.WatchTurned', WHERE WHAT IT READS IS OF BULK AT MOST 1048576: true; the input reads as it did. -/
def watchTurnedUptoRow : OpenClaim := { program := "ytnmmhkkmejbckaadoor", sum := "1e487a005f0a815cb21c3a517ae6b77da2547f28da2c00297b7e974b9524a1b1", func := "dipworks/dipworkslaw07.WatchTurned", spec := "watchTurned", unfollowed := true, recurses := true, named := ["math/bits.deBruijn32tab", "math/bits.deBruijn64tab"], plainKeys := false, apart := false, laid := [("math/bits.deBruijn32tab", laid_math_bits_deBruijn32tab), ("math/bits.deBruijn64tab", laid_math_bits_deBruijn64tab)], narrowed := true }
def WatchTurnedUptoSaid : Prop := watchTurnedUptoRow.holds Tryd.pinned (OpenSpec.upto watchTurnedSpec)

end Rows
end Go.Proofs.YtnmmhkkmejbckaaDoor
