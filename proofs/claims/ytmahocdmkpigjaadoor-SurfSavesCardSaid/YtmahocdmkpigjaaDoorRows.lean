/-
  NARROWER THAN 'FOR EVERY INPUT', by the rows' own cells (each row's printed sentence says how): SurfReads: laid · SurfLooks: laid · SurfSaves: laid · SurfTrue: laid · SurfKnown: laid · SurfEnds: laid · SurfEnough: laid · SurfSave: laid · SurfMore: laid · SurfFarther: laid.
  DERIVED. THE GIVEN ROWS OF THIS SEAT. 10 by the template 'for every input the law returns true; each argument reads behind the call as it read before'; 0 by the template 'total and deterministic' (their statements: YtmahocdmkpigjaaDoorTotals.lean).
  GIVEN WITH THE SEED: the statements are not yours to turn. If you find one false, say at which input.
  Laid BY PROGRAM, IN A SANDBOX (cutbox-rows.mjs): the forced cells as the released guide's own fill.sh prints them over the translation a25874233868c063… (all of the seat's roots in one cut). By AI agents, Wed Nov 11 2026. No macro, syntax, notation, axiom, sorry.
-/
import Derived.Test.YtmahocdmkpigjaaDoorChecked
import GoSem.Claim
import GoSem.ClaimJoined
import GoSem.ClaimMapViews
import Derived.JoinedTies
import Derived.KernelRfl
namespace Go.Proofs.YtmahocdmkpigjaaDoor
/- THE CELL 'sum', in the pinned program and in every row, IS THE sha256 OF THE DUMP (.gsa) THAT YtmahocdmkpigjaaDoorProg.lean LOADS. Nothing in Lean hashes anything: it is a label: what it is worth is what the hold of that sum in a sandbox is worth. -/
noncomputable def Tryd.pinned : Pinned := { name := "ytmahocdmkpigjaadoor", sum := "a25874233868c06338a2413f5a9f36b92f2aba1a8ed1aecccd1040633ea8280e", checked := Tryd.checked }
namespace Rows
def none {H : Type} : Left H := { results := [], args := [] }

/- WHAT THE LISTED PACKAGE-LEVEL VARIABLES READ AS WHEN THE CALL BEGINS. Each datum BY PROGRAM (the guide's laid-datum.mjs) off the statement by which the dump's own 'gosem.cut.vars' lays the variable. In a bare row this is a premise. The card (YtmahocdmkpigjaaDoorCards.lean) ties it to the program's text. -/
def laid_math_bits_deBruijn32tab {H : Type} : DataW H := .agg [.lit (.int .u8 0), .lit (.int .u8 1), .lit (.int .u8 28), .lit (.int .u8 2), .lit (.int .u8 29), .lit (.int .u8 14), .lit (.int .u8 24), .lit (.int .u8 3), .lit (.int .u8 30), .lit (.int .u8 22), .lit (.int .u8 20), .lit (.int .u8 15), .lit (.int .u8 25), .lit (.int .u8 17), .lit (.int .u8 4), .lit (.int .u8 8), .lit (.int .u8 31), .lit (.int .u8 27), .lit (.int .u8 13), .lit (.int .u8 23), .lit (.int .u8 21), .lit (.int .u8 19), .lit (.int .u8 16), .lit (.int .u8 7), .lit (.int .u8 26), .lit (.int .u8 12), .lit (.int .u8 18), .lit (.int .u8 6), .lit (.int .u8 11), .lit (.int .u8 5), .lit (.int .u8 10), .lit (.int .u8 9)]
def laid_math_bits_deBruijn64tab {H : Type} : DataW H := .agg [.lit (.int .u8 0), .lit (.int .u8 1), .lit (.int .u8 56), .lit (.int .u8 2), .lit (.int .u8 57), .lit (.int .u8 49), .lit (.int .u8 28), .lit (.int .u8 3), .lit (.int .u8 61), .lit (.int .u8 58), .lit (.int .u8 42), .lit (.int .u8 50), .lit (.int .u8 38), .lit (.int .u8 29), .lit (.int .u8 17), .lit (.int .u8 4), .lit (.int .u8 62), .lit (.int .u8 47), .lit (.int .u8 59), .lit (.int .u8 36), .lit (.int .u8 45), .lit (.int .u8 43), .lit (.int .u8 51), .lit (.int .u8 22), .lit (.int .u8 53), .lit (.int .u8 39), .lit (.int .u8 33), .lit (.int .u8 30), .lit (.int .u8 24), .lit (.int .u8 18), .lit (.int .u8 12), .lit (.int .u8 5), .lit (.int .u8 63), .lit (.int .u8 55), .lit (.int .u8 48), .lit (.int .u8 27), .lit (.int .u8 60), .lit (.int .u8 41), .lit (.int .u8 37), .lit (.int .u8 16), .lit (.int .u8 46), .lit (.int .u8 35), .lit (.int .u8 44), .lit (.int .u8 21), .lit (.int .u8 52), .lit (.int .u8 32), .lit (.int .u8 23), .lit (.int .u8 11), .lit (.int .u8 54), .lit (.int .u8 26), .lit (.int .u8 40), .lit (.int .u8 15), .lit (.int .u8 34), .lit (.int .u8 20), .lit (.int .u8 31), .lit (.int .u8 10), .lit (.int .u8 25), .lit (.int .u8 14), .lit (.int .u8 19), .lit (.int .u8 9), .lit (.int .u8 13), .lit (.int .u8 8), .lit (.int .u8 7), .lit (.int .u8 6)]

/-- 'dipworkslaw04.SurfReads': WHATEVER THE INPUT: true; the input reads as it did. -/
def surfReadsSpec : ChangeSpec := { name := "surfReads", fn := fun _ => fun
  | [d1, d2, d3, d4] => { results := [.lit (.bool true)], args := [d1, d2, d3, d4] }
  | _ => none }
def surfReadsRow : OpenClaim := { program := "ytmahocdmkpigjaadoor", sum := "a25874233868c06338a2413f5a9f36b92f2aba1a8ed1aecccd1040633ea8280e", func := "dipworks/dipworkslaw04.SurfReads", spec := "surfReads", unfollowed := true, recurses := true, named := ["math/bits.deBruijn32tab", "math/bits.deBruijn64tab"], plainKeys := false, apart := false, laid := [("math/bits.deBruijn32tab", laid_math_bits_deBruijn32tab), ("math/bits.deBruijn64tab", laid_math_bits_deBruijn64tab)] }
def SurfReadsSaid : Prop := surfReadsRow.holds Tryd.pinned (OpenSpec.ofChange surfReadsSpec)

/-- ITS FALSE NEIGHBOUR: 'it returns false'. Refute it at one input. -/
def surfReadsWrong : ChangeSpec := { name := "surfReads", fn := fun _ => fun
  | [d1, d2, d3, d4] => { results := [.lit (.bool false)], args := [d1, d2, d3, d4] }
  | _ => none }
def SurfReadsWrongFalsely : Prop := surfReadsRow.holds Tryd.pinned (OpenSpec.ofChange surfReadsWrong)

/-- 'dipworkslaw04.SurfLooks': WHATEVER THE INPUT: true; the input reads as it did. -/
def surfLooksSpec : ChangeSpec := { name := "surfLooks", fn := fun _ => fun
  | [d1, d2] => { results := [.lit (.bool true)], args := [d1, d2] }
  | _ => none }
def surfLooksRow : OpenClaim := { program := "ytmahocdmkpigjaadoor", sum := "a25874233868c06338a2413f5a9f36b92f2aba1a8ed1aecccd1040633ea8280e", func := "dipworks/dipworkslaw04.SurfLooks", spec := "surfLooks", unfollowed := true, recurses := true, named := ["math/bits.deBruijn32tab", "math/bits.deBruijn64tab"], plainKeys := false, apart := false, laid := [("math/bits.deBruijn32tab", laid_math_bits_deBruijn32tab), ("math/bits.deBruijn64tab", laid_math_bits_deBruijn64tab)] }
def SurfLooksSaid : Prop := surfLooksRow.holds Tryd.pinned (OpenSpec.ofChange surfLooksSpec)

/-- ITS FALSE NEIGHBOUR: 'it returns false'. Refute it at one input. -/
def surfLooksWrong : ChangeSpec := { name := "surfLooks", fn := fun _ => fun
  | [d1, d2] => { results := [.lit (.bool false)], args := [d1, d2] }
  | _ => none }
def SurfLooksWrongFalsely : Prop := surfLooksRow.holds Tryd.pinned (OpenSpec.ofChange surfLooksWrong)

/-- 'dipworkslaw04.SurfSaves': WHATEVER THE INPUT: true; the input reads as it did. -/
def surfSavesSpec : ChangeSpec := { name := "surfSaves", fn := fun _ => fun
  | [d1, d2] => { results := [.lit (.bool true)], args := [d1, d2] }
  | _ => none }
def surfSavesRow : OpenClaim := { program := "ytmahocdmkpigjaadoor", sum := "a25874233868c06338a2413f5a9f36b92f2aba1a8ed1aecccd1040633ea8280e", func := "dipworks/dipworkslaw04.SurfSaves", spec := "surfSaves", unfollowed := true, recurses := true, named := ["math/bits.deBruijn32tab", "math/bits.deBruijn64tab"], plainKeys := false, apart := false, laid := [("math/bits.deBruijn32tab", laid_math_bits_deBruijn32tab), ("math/bits.deBruijn64tab", laid_math_bits_deBruijn64tab)] }
def SurfSavesSaid : Prop := surfSavesRow.holds Tryd.pinned (OpenSpec.ofChange surfSavesSpec)

/-- ITS FALSE NEIGHBOUR: 'it returns false'. Refute it at one input. -/
def surfSavesWrong : ChangeSpec := { name := "surfSaves", fn := fun _ => fun
  | [d1, d2] => { results := [.lit (.bool false)], args := [d1, d2] }
  | _ => none }
def SurfSavesWrongFalsely : Prop := surfSavesRow.holds Tryd.pinned (OpenSpec.ofChange surfSavesWrong)

/-- 'dipworkslaw04.SurfTrue': WHATEVER THE INPUT: true; the input reads as it did. -/
def surfTrueSpec : ChangeSpec := { name := "surfTrue", fn := fun _ => fun
  | [d1, d2, d3] => { results := [.lit (.bool true)], args := [d1, d2, d3] }
  | _ => none }
def surfTrueRow : OpenClaim := { program := "ytmahocdmkpigjaadoor", sum := "a25874233868c06338a2413f5a9f36b92f2aba1a8ed1aecccd1040633ea8280e", func := "dipworks/dipworkslaw04.SurfTrue", spec := "surfTrue", unfollowed := true, recurses := true, named := ["math/bits.deBruijn32tab", "math/bits.deBruijn64tab"], plainKeys := false, apart := false, laid := [("math/bits.deBruijn32tab", laid_math_bits_deBruijn32tab), ("math/bits.deBruijn64tab", laid_math_bits_deBruijn64tab)] }
def SurfTrueSaid : Prop := surfTrueRow.holds Tryd.pinned (OpenSpec.ofChange surfTrueSpec)

/-- ITS FALSE NEIGHBOUR: 'it returns false'. Refute it at one input. -/
def surfTrueWrong : ChangeSpec := { name := "surfTrue", fn := fun _ => fun
  | [d1, d2, d3] => { results := [.lit (.bool false)], args := [d1, d2, d3] }
  | _ => none }
def SurfTrueWrongFalsely : Prop := surfTrueRow.holds Tryd.pinned (OpenSpec.ofChange surfTrueWrong)

/-- 'dipworkslaw04.SurfKnown': WHATEVER THE INPUT: true; the input reads as it did. -/
def surfKnownSpec : ChangeSpec := { name := "surfKnown", fn := fun _ => fun
  | [d1, d2, d3] => { results := [.lit (.bool true)], args := [d1, d2, d3] }
  | _ => none }
def surfKnownRow : OpenClaim := { program := "ytmahocdmkpigjaadoor", sum := "a25874233868c06338a2413f5a9f36b92f2aba1a8ed1aecccd1040633ea8280e", func := "dipworks/dipworkslaw04.SurfKnown", spec := "surfKnown", unfollowed := true, recurses := true, named := ["math/bits.deBruijn32tab", "math/bits.deBruijn64tab"], plainKeys := false, apart := false, laid := [("math/bits.deBruijn32tab", laid_math_bits_deBruijn32tab), ("math/bits.deBruijn64tab", laid_math_bits_deBruijn64tab)] }
def SurfKnownSaid : Prop := surfKnownRow.holds Tryd.pinned (OpenSpec.ofChange surfKnownSpec)

/-- ITS FALSE NEIGHBOUR: 'it returns false'. Refute it at one input. -/
def surfKnownWrong : ChangeSpec := { name := "surfKnown", fn := fun _ => fun
  | [d1, d2, d3] => { results := [.lit (.bool false)], args := [d1, d2, d3] }
  | _ => none }
def SurfKnownWrongFalsely : Prop := surfKnownRow.holds Tryd.pinned (OpenSpec.ofChange surfKnownWrong)

/-- 'dipworkslaw04.SurfEnds': WHATEVER THE INPUT: true; the input reads as it did. -/
def surfEndsSpec : ChangeSpec := { name := "surfEnds", fn := fun _ => fun
  | [d1, d2] => { results := [.lit (.bool true)], args := [d1, d2] }
  | _ => none }
def surfEndsRow : OpenClaim := { program := "ytmahocdmkpigjaadoor", sum := "a25874233868c06338a2413f5a9f36b92f2aba1a8ed1aecccd1040633ea8280e", func := "dipworks/dipworkslaw04.SurfEnds", spec := "surfEnds", unfollowed := true, recurses := true, named := ["math/bits.deBruijn32tab", "math/bits.deBruijn64tab"], plainKeys := false, apart := false, laid := [("math/bits.deBruijn32tab", laid_math_bits_deBruijn32tab), ("math/bits.deBruijn64tab", laid_math_bits_deBruijn64tab)] }
def SurfEndsSaid : Prop := surfEndsRow.holds Tryd.pinned (OpenSpec.ofChange surfEndsSpec)

/-- ITS FALSE NEIGHBOUR: 'it returns false'. Refute it at one input. -/
def surfEndsWrong : ChangeSpec := { name := "surfEnds", fn := fun _ => fun
  | [d1, d2] => { results := [.lit (.bool false)], args := [d1, d2] }
  | _ => none }
def SurfEndsWrongFalsely : Prop := surfEndsRow.holds Tryd.pinned (OpenSpec.ofChange surfEndsWrong)

/-- 'dipworkslaw04.SurfEnough': WHATEVER THE INPUT: true; the input reads as it did. -/
def surfEnoughSpec : ChangeSpec := { name := "surfEnough", fn := fun _ => fun
  | [d1, d2, d3] => { results := [.lit (.bool true)], args := [d1, d2, d3] }
  | _ => none }
def surfEnoughRow : OpenClaim := { program := "ytmahocdmkpigjaadoor", sum := "a25874233868c06338a2413f5a9f36b92f2aba1a8ed1aecccd1040633ea8280e", func := "dipworks/dipworkslaw04.SurfEnough", spec := "surfEnough", unfollowed := true, recurses := true, named := ["math/bits.deBruijn32tab", "math/bits.deBruijn64tab"], plainKeys := false, apart := false, laid := [("math/bits.deBruijn32tab", laid_math_bits_deBruijn32tab), ("math/bits.deBruijn64tab", laid_math_bits_deBruijn64tab)] }
def SurfEnoughSaid : Prop := surfEnoughRow.holds Tryd.pinned (OpenSpec.ofChange surfEnoughSpec)

/-- ITS FALSE NEIGHBOUR: 'it returns false'. Refute it at one input. -/
def surfEnoughWrong : ChangeSpec := { name := "surfEnough", fn := fun _ => fun
  | [d1, d2, d3] => { results := [.lit (.bool false)], args := [d1, d2, d3] }
  | _ => none }
def SurfEnoughWrongFalsely : Prop := surfEnoughRow.holds Tryd.pinned (OpenSpec.ofChange surfEnoughWrong)

/-- 'dipworkslaw04.SurfSave': WHATEVER THE INPUT: true; the input reads as it did. -/
def surfSaveSpec : ChangeSpec := { name := "surfSave", fn := fun _ => fun
  | [d1, d2, d3] => { results := [.lit (.bool true)], args := [d1, d2, d3] }
  | _ => none }
def surfSaveRow : OpenClaim := { program := "ytmahocdmkpigjaadoor", sum := "a25874233868c06338a2413f5a9f36b92f2aba1a8ed1aecccd1040633ea8280e", func := "dipworks/dipworkslaw04.SurfSave", spec := "surfSave", unfollowed := true, recurses := true, named := ["math/bits.deBruijn32tab", "math/bits.deBruijn64tab"], plainKeys := false, apart := false, laid := [("math/bits.deBruijn32tab", laid_math_bits_deBruijn32tab), ("math/bits.deBruijn64tab", laid_math_bits_deBruijn64tab)] }
def SurfSaveSaid : Prop := surfSaveRow.holds Tryd.pinned (OpenSpec.ofChange surfSaveSpec)

/-- ITS FALSE NEIGHBOUR: 'it returns false'. Refute it at one input. -/
def surfSaveWrong : ChangeSpec := { name := "surfSave", fn := fun _ => fun
  | [d1, d2, d3] => { results := [.lit (.bool false)], args := [d1, d2, d3] }
  | _ => none }
def SurfSaveWrongFalsely : Prop := surfSaveRow.holds Tryd.pinned (OpenSpec.ofChange surfSaveWrong)

/-- 'dipworkslaw04.SurfMore': WHATEVER THE INPUT: true; the input reads as it did. -/
def surfMoreSpec : ChangeSpec := { name := "surfMore", fn := fun _ => fun
  | [d1, d2, d3, d4, d5] => { results := [.lit (.bool true)], args := [d1, d2, d3, d4, d5] }
  | _ => none }
def surfMoreRow : OpenClaim := { program := "ytmahocdmkpigjaadoor", sum := "a25874233868c06338a2413f5a9f36b92f2aba1a8ed1aecccd1040633ea8280e", func := "dipworks/dipworkslaw04.SurfMore", spec := "surfMore", unfollowed := true, recurses := true, named := ["math/bits.deBruijn32tab", "math/bits.deBruijn64tab"], plainKeys := false, apart := false, laid := [("math/bits.deBruijn32tab", laid_math_bits_deBruijn32tab), ("math/bits.deBruijn64tab", laid_math_bits_deBruijn64tab)] }
def SurfMoreSaid : Prop := surfMoreRow.holds Tryd.pinned (OpenSpec.ofChange surfMoreSpec)

/-- ITS FALSE NEIGHBOUR: 'it returns false'. Refute it at one input. -/
def surfMoreWrong : ChangeSpec := { name := "surfMore", fn := fun _ => fun
  | [d1, d2, d3, d4, d5] => { results := [.lit (.bool false)], args := [d1, d2, d3, d4, d5] }
  | _ => none }
def SurfMoreWrongFalsely : Prop := surfMoreRow.holds Tryd.pinned (OpenSpec.ofChange surfMoreWrong)

/-- 'dipworkslaw04.SurfFarther': WHATEVER THE INPUT: true; the input reads as it did. -/
def surfFartherSpec : ChangeSpec := { name := "surfFarther", fn := fun _ => fun
  | [d1, d2, d3] => { results := [.lit (.bool true)], args := [d1, d2, d3] }
  | _ => none }
def surfFartherRow : OpenClaim := { program := "ytmahocdmkpigjaadoor", sum := "a25874233868c06338a2413f5a9f36b92f2aba1a8ed1aecccd1040633ea8280e", func := "dipworks/dipworkslaw04.SurfFarther", spec := "surfFarther", unfollowed := true, recurses := true, named := ["math/bits.deBruijn32tab", "math/bits.deBruijn64tab"], plainKeys := false, apart := false, laid := [("math/bits.deBruijn32tab", laid_math_bits_deBruijn32tab), ("math/bits.deBruijn64tab", laid_math_bits_deBruijn64tab)] }
def SurfFartherSaid : Prop := surfFartherRow.holds Tryd.pinned (OpenSpec.ofChange surfFartherSpec)

/-- ITS FALSE NEIGHBOUR: 'it returns false'. Refute it at one input. -/
def surfFartherWrong : ChangeSpec := { name := "surfFarther", fn := fun _ => fun
  | [d1, d2, d3] => { results := [.lit (.bool false)], args := [d1, d2, d3] }
  | _ => none }
def SurfFartherWrongFalsely : Prop := surfFartherRow.holds Tryd.pinned (OpenSpec.ofChange surfFartherWrong)

/- THE SECOND FORM. 'bulk': how many values and letters a reading holds, each counted each time it is reached (what is shared counts as often as it is met; a slice's spare places count too). A statement '..UptoSaid' is the law's where the arguments, and the package variables that the reading takes, are together of bulk at most 1048576: NARROWER than '..Said'. Prove '..Said' where nothing that the law and all that it calls make is longer than what came in: it says more and counts as full. Else prove '..UptoSaid'. A law counts once. -/
mutual
def uptoBulk {H : Type} : DataW H → Nat
  | .lit (.string bytes) => bytes.length + 1
  | .lit _ => 1
  | .nil => 1
  | .ptr d => uptoBulk d + 1
  | .slice elems spare => uptoBulkAll elems + uptoBulkAll spare + 1
  | .agg parts => uptoBulkAll parts + 1
  | .iface _ d => uptoBulk d + 1
  | .map entries => uptoBulkEntries entries + 1
  | .held _ => 1
def uptoBulkAll {H : Type} : List (DataW H) → Nat
  | [] => 0
  | d :: r => uptoBulk d + uptoBulkAll r
def uptoBulkEntries {H : Type} : List (Lit × DataW H) → Nat
  | [] => 0
  | x :: r => uptoBulkEntry x + uptoBulkEntries r
def uptoBulkEntry {H : Type} : Lit × DataW H → Nat
  | (.string bytes, d) => bytes.length + uptoBulk d + 1
  | (_, d) => uptoBulk d + 1
 end
def uptoSmall : (H : Type) → List (DataW H) → Bool := fun _ ds => decide (uptoBulkAll ds ≤ 1048576)
def OpenSpec.upto (s : _root_.Go.ChangeSpec) : _root_.Go.OpenSpec := { _root_.Go.OpenSpec.ofChange s with cond := some uptoSmall }

/-- 'dipworkslaw04.SurfReads', WHERE WHAT IT READS IS OF BULK AT MOST 1048576: true; the input reads as it did. -/
def surfReadsUptoRow : OpenClaim := { program := "ytmahocdmkpigjaadoor", sum := "a25874233868c06338a2413f5a9f36b92f2aba1a8ed1aecccd1040633ea8280e", func := "dipworks/dipworkslaw04.SurfReads", spec := "surfReads", unfollowed := true, recurses := true, named := ["math/bits.deBruijn32tab", "math/bits.deBruijn64tab"], plainKeys := false, apart := false, laid := [("math/bits.deBruijn32tab", laid_math_bits_deBruijn32tab), ("math/bits.deBruijn64tab", laid_math_bits_deBruijn64tab)], narrowed := true }
def SurfReadsUptoSaid : Prop := surfReadsUptoRow.holds Tryd.pinned (OpenSpec.upto surfReadsSpec)

/-- 'dipworkslaw04.SurfLooks', WHERE WHAT IT READS IS OF BULK AT MOST 1048576: true; the input reads as it did. -/
def surfLooksUptoRow : OpenClaim := { program := "ytmahocdmkpigjaadoor", sum := "a25874233868c06338a2413f5a9f36b92f2aba1a8ed1aecccd1040633ea8280e", func := "dipworks/dipworkslaw04.SurfLooks", spec := "surfLooks", unfollowed := true, recurses := true, named := ["math/bits.deBruijn32tab", "math/bits.deBruijn64tab"], plainKeys := false, apart := false, laid := [("math/bits.deBruijn32tab", laid_math_bits_deBruijn32tab), ("math/bits.deBruijn64tab", laid_math_bits_deBruijn64tab)], narrowed := true }
def SurfLooksUptoSaid : Prop := surfLooksUptoRow.holds Tryd.pinned (OpenSpec.upto surfLooksSpec)

/-- 'dipworkslaw04.SurfSaves', WHERE WHAT IT READS IS OF BULK AT MOST 1048576: true; the input reads as it did. -/
def surfSavesUptoRow : OpenClaim := { program := "ytmahocdmkpigjaadoor", sum := "a25874233868c06338a2413f5a9f36b92f2aba1a8ed1aecccd1040633ea8280e", func := "dipworks/dipworkslaw04.SurfSaves", spec := "surfSaves", unfollowed := true, recurses := true, named := ["math/bits.deBruijn32tab", "math/bits.deBruijn64tab"], plainKeys := false, apart := false, laid := [("math/bits.deBruijn32tab", laid_math_bits_deBruijn32tab), ("math/bits.deBruijn64tab", laid_math_bits_deBruijn64tab)], narrowed := true }
def SurfSavesUptoSaid : Prop := surfSavesUptoRow.holds Tryd.pinned (OpenSpec.upto surfSavesSpec)

/-- 'dipworkslaw04.SurfTrue', WHERE WHAT IT READS IS OF BULK AT MOST 1048576: true; the input reads as it did. -/
def surfTrueUptoRow : OpenClaim := { program := "ytmahocdmkpigjaadoor", sum := "a25874233868c06338a2413f5a9f36b92f2aba1a8ed1aecccd1040633ea8280e", func := "dipworks/dipworkslaw04.SurfTrue", spec := "surfTrue", unfollowed := true, recurses := true, named := ["math/bits.deBruijn32tab", "math/bits.deBruijn64tab"], plainKeys := false, apart := false, laid := [("math/bits.deBruijn32tab", laid_math_bits_deBruijn32tab), ("math/bits.deBruijn64tab", laid_math_bits_deBruijn64tab)], narrowed := true }
def SurfTrueUptoSaid : Prop := surfTrueUptoRow.holds Tryd.pinned (OpenSpec.upto surfTrueSpec)

/-- 'dipworkslaw04.SurfKnown', WHERE WHAT IT READS IS OF BULK AT MOST 1048576: true; the input reads as it did. -/
def surfKnownUptoRow : OpenClaim := { program := "ytmahocdmkpigjaadoor", sum := "a25874233868c06338a2413f5a9f36b92f2aba1a8ed1aecccd1040633ea8280e", func := "dipworks/dipworkslaw04.SurfKnown", spec := "surfKnown", unfollowed := true, recurses := true, named := ["math/bits.deBruijn32tab", "math/bits.deBruijn64tab"], plainKeys := false, apart := false, laid := [("math/bits.deBruijn32tab", laid_math_bits_deBruijn32tab), ("math/bits.deBruijn64tab", laid_math_bits_deBruijn64tab)], narrowed := true }
def SurfKnownUptoSaid : Prop := surfKnownUptoRow.holds Tryd.pinned (OpenSpec.upto surfKnownSpec)

/-- 'dipworkslaw04.SurfEnds', WHERE WHAT IT READS IS OF BULK AT MOST 1048576: true; the input reads as it did. -/
def surfEndsUptoRow : OpenClaim := { program := "ytmahocdmkpigjaadoor", sum := "a25874233868c06338a2413f5a9f36b92f2aba1a8ed1aecccd1040633ea8280e", func := "dipworks/dipworkslaw04.SurfEnds", spec := "surfEnds", unfollowed := true, recurses := true, named := ["math/bits.deBruijn32tab", "math/bits.deBruijn64tab"], plainKeys := false, apart := false, laid := [("math/bits.deBruijn32tab", laid_math_bits_deBruijn32tab), ("math/bits.deBruijn64tab", laid_math_bits_deBruijn64tab)], narrowed := true }
def SurfEndsUptoSaid : Prop := surfEndsUptoRow.holds Tryd.pinned (OpenSpec.upto surfEndsSpec)

/-- 'dipworkslaw04.SurfEnough', WHERE WHAT IT READS IS OF BULK AT MOST 1048576: true; the input reads as it did. -/
def surfEnoughUptoRow : OpenClaim := { program := "ytmahocdmkpigjaadoor", sum := "a25874233868c06338a2413f5a9f36b92f2aba1a8ed1aecccd1040633ea8280e", func := "dipworks/dipworkslaw04.SurfEnough", spec := "surfEnough", unfollowed := true, recurses := true, named := ["math/bits.deBruijn32tab", "math/bits.deBruijn64tab"], plainKeys := false, apart := false, laid := [("math/bits.deBruijn32tab", laid_math_bits_deBruijn32tab), ("math/bits.deBruijn64tab", laid_math_bits_deBruijn64tab)], narrowed := true }
def SurfEnoughUptoSaid : Prop := surfEnoughUptoRow.holds Tryd.pinned (OpenSpec.upto surfEnoughSpec)

/-- 'dipworkslaw04.SurfSave', WHERE WHAT IT READS IS OF BULK AT MOST 1048576: true; the input reads as it did. -/
def surfSaveUptoRow : OpenClaim := { program := "ytmahocdmkpigjaadoor", sum := "a25874233868c06338a2413f5a9f36b92f2aba1a8ed1aecccd1040633ea8280e", func := "dipworks/dipworkslaw04.SurfSave", spec := "surfSave", unfollowed := true, recurses := true, named := ["math/bits.deBruijn32tab", "math/bits.deBruijn64tab"], plainKeys := false, apart := false, laid := [("math/bits.deBruijn32tab", laid_math_bits_deBruijn32tab), ("math/bits.deBruijn64tab", laid_math_bits_deBruijn64tab)], narrowed := true }
def SurfSaveUptoSaid : Prop := surfSaveUptoRow.holds Tryd.pinned (OpenSpec.upto surfSaveSpec)

/-- 'dipworkslaw04.SurfMore', WHERE WHAT IT READS IS OF BULK AT MOST 1048576: true; the input reads as it did. -/
def surfMoreUptoRow : OpenClaim := { program := "ytmahocdmkpigjaadoor", sum := "a25874233868c06338a2413f5a9f36b92f2aba1a8ed1aecccd1040633ea8280e", func := "dipworks/dipworkslaw04.SurfMore", spec := "surfMore", unfollowed := true, recurses := true, named := ["math/bits.deBruijn32tab", "math/bits.deBruijn64tab"], plainKeys := false, apart := false, laid := [("math/bits.deBruijn32tab", laid_math_bits_deBruijn32tab), ("math/bits.deBruijn64tab", laid_math_bits_deBruijn64tab)], narrowed := true }
def SurfMoreUptoSaid : Prop := surfMoreUptoRow.holds Tryd.pinned (OpenSpec.upto surfMoreSpec)

/-- 'dipworkslaw04.SurfFarther', WHERE WHAT IT READS IS OF BULK AT MOST 1048576: true; the input reads as it did. -/
def surfFartherUptoRow : OpenClaim := { program := "ytmahocdmkpigjaadoor", sum := "a25874233868c06338a2413f5a9f36b92f2aba1a8ed1aecccd1040633ea8280e", func := "dipworks/dipworkslaw04.SurfFarther", spec := "surfFarther", unfollowed := true, recurses := true, named := ["math/bits.deBruijn32tab", "math/bits.deBruijn64tab"], plainKeys := false, apart := false, laid := [("math/bits.deBruijn32tab", laid_math_bits_deBruijn32tab), ("math/bits.deBruijn64tab", laid_math_bits_deBruijn64tab)], narrowed := true }
def SurfFartherUptoSaid : Prop := surfFartherUptoRow.holds Tryd.pinned (OpenSpec.upto surfFartherSpec)

end Rows
end Go.Proofs.YtmahocdmkpigjaaDoor
