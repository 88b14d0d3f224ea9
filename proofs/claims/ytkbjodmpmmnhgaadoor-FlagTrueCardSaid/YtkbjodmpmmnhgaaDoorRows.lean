/-
  NARROWER THAN 'FOR EVERY INPUT', by the rows' own cells (each row's printed sentence says how): FlagReads: laid · FlagLooks: laid · FlagProves: laid · FlagTrue: laid · FlagEnds: laid · FlagUnder: laid · FlagAsk: laid · FlagWrong: laid · FlagMore: laid · FlagTwice: laid.
  DERIVED. THE GIVEN ROWS OF THIS SEAT. 10 by the template 'for every input the law returns true; each argument reads behind the call as it read before'; 0 by the template 'total and deterministic' (their statements: YtkbjodmpmmnhgaaDoorTotals.lean).
  GIVEN WITH THE SEED: the statements are not yours to turn. If you find one false, say at which input.
  Laid BY PROGRAM, IN A SANDBOX (cutbox-rows.mjs): the forced cells as the released guide's own fill.sh prints them over the translation 66ec7b7fc736242e… (all of the seat's roots in one cut). By AI agents, Wed Nov 11 2026. No macro, syntax, notation, axiom, sorry.
-/
import Derived.Test.YtkbjodmpmmnhgaaDoorChecked
import GoSem.Claim
import GoSem.ClaimJoined
import GoSem.ClaimMapViews
import Derived.JoinedTies
import Derived.KernelRfl
namespace Go.Proofs.YtkbjodmpmmnhgaaDoor
/- THE CELL 'sum', in the pinned program and in every row, IS THE sha256 OF THE DUMP (.gsa) THAT YtkbjodmpmmnhgaaDoorProg.lean LOADS. Nothing in Lean hashes anything: it is a label: what it is worth is what the hold of that sum in a sandbox is worth. -/
noncomputable def Tryd.pinned : Pinned := { name := "ytkbjodmpmmnhgaadoor", sum := "66ec7b7fc736242e5e17cc8f4e271467faf5d5afb6b3c84fc64f19a1ef5f6206", checked := Tryd.checked }
namespace Rows
def none {H : Type} : Left H := { results := [], args := [] }

/- WHAT THE LISTED PACKAGE-LEVEL VARIABLES READ AS WHEN THE CALL BEGINS. Each datum BY PROGRAM (the guide's laid-datum.mjs) off the statement by which the dump's own 'gosem.cut.vars' lays the variable. In a bare row this is a premise. The card (YtkbjodmpmmnhgaaDoorCards.lean) ties it to the program's text. -/
def laid_math_bits_deBruijn32tab {H : Type} : DataW H := .agg [.lit (.int .u8 0), .lit (.int .u8 1), .lit (.int .u8 28), .lit (.int .u8 2), .lit (.int .u8 29), .lit (.int .u8 14), .lit (.int .u8 24), .lit (.int .u8 3), .lit (.int .u8 30), .lit (.int .u8 22), .lit (.int .u8 20), .lit (.int .u8 15), .lit (.int .u8 25), .lit (.int .u8 17), .lit (.int .u8 4), .lit (.int .u8 8), .lit (.int .u8 31), .lit (.int .u8 27), .lit (.int .u8 13), .lit (.int .u8 23), .lit (.int .u8 21), .lit (.int .u8 19), .lit (.int .u8 16), .lit (.int .u8 7), .lit (.int .u8 26), .lit (.int .u8 12), .lit (.int .u8 18), .lit (.int .u8 6), .lit (.int .u8 11), .lit (.int .u8 5), .lit (.int .u8 10), .lit (.int .u8 9)]
def laid_math_bits_deBruijn64tab {H : Type} : DataW H := .agg [.lit (.int .u8 0), .lit (.int .u8 1), .lit (.int .u8 56), .lit (.int .u8 2), .lit (.int .u8 57), .lit (.int .u8 49), .lit (.int .u8 28), .lit (.int .u8 3), .lit (.int .u8 61), .lit (.int .u8 58), .lit (.int .u8 42), .lit (.int .u8 50), .lit (.int .u8 38), .lit (.int .u8 29), .lit (.int .u8 17), .lit (.int .u8 4), .lit (.int .u8 62), .lit (.int .u8 47), .lit (.int .u8 59), .lit (.int .u8 36), .lit (.int .u8 45), .lit (.int .u8 43), .lit (.int .u8 51), .lit (.int .u8 22), .lit (.int .u8 53), .lit (.int .u8 39), .lit (.int .u8 33), .lit (.int .u8 30), .lit (.int .u8 24), .lit (.int .u8 18), .lit (.int .u8 12), .lit (.int .u8 5), .lit (.int .u8 63), .lit (.int .u8 55), .lit (.int .u8 48), .lit (.int .u8 27), .lit (.int .u8 60), .lit (.int .u8 41), .lit (.int .u8 37), .lit (.int .u8 16), .lit (.int .u8 46), .lit (.int .u8 35), .lit (.int .u8 44), .lit (.int .u8 21), .lit (.int .u8 52), .lit (.int .u8 32), .lit (.int .u8 23), .lit (.int .u8 11), .lit (.int .u8 54), .lit (.int .u8 26), .lit (.int .u8 40), .lit (.int .u8 15), .lit (.int .u8 34), .lit (.int .u8 20), .lit (.int .u8 31), .lit (.int .u8 10), .lit (.int .u8 25), .lit (.int .u8 14), .lit (.int .u8 19), .lit (.int .u8 9), .lit (.int .u8 13), .lit (.int .u8 8), .lit (.int .u8 7), .lit (.int .u8 6)]

/-- 'dipworkslaw10.FlagReads': WHATEVER THE INPUT: true; the input reads as it did. -/
def flagReadsSpec : ChangeSpec := { name := "flagReads", fn := fun _ => fun
  | [d1, d2] => { results := [.lit (.bool true)], args := [d1, d2] }
  | _ => none }
def flagReadsRow : OpenClaim := { program := "ytkbjodmpmmnhgaadoor", sum := "66ec7b7fc736242e5e17cc8f4e271467faf5d5afb6b3c84fc64f19a1ef5f6206", func := "dipworks/dipworkslaw10.FlagReads", spec := "flagReads", unfollowed := true, recurses := true, named := ["math/bits.deBruijn32tab", "math/bits.deBruijn64tab"], plainKeys := false, apart := false, laid := [("math/bits.deBruijn32tab", laid_math_bits_deBruijn32tab), ("math/bits.deBruijn64tab", laid_math_bits_deBruijn64tab)] }
def FlagReadsSaid : Prop := flagReadsRow.holds Tryd.pinned (OpenSpec.ofChange flagReadsSpec)

/-- ITS FALSE NEIGHBOUR: 'it returns false'. Refute it at one input. -/
def flagReadsWrong : ChangeSpec := { name := "flagReads", fn := fun _ => fun
  | [d1, d2] => { results := [.lit (.bool false)], args := [d1, d2] }
  | _ => none }
def FlagReadsWrongFalsely : Prop := flagReadsRow.holds Tryd.pinned (OpenSpec.ofChange flagReadsWrong)

/-- 'dipworkslaw10.FlagLooks': WHATEVER THE INPUT: true; the input reads as it did. -/
def flagLooksSpec : ChangeSpec := { name := "flagLooks", fn := fun _ => fun
  | [d1, d2, d3] => { results := [.lit (.bool true)], args := [d1, d2, d3] }
  | _ => none }
def flagLooksRow : OpenClaim := { program := "ytkbjodmpmmnhgaadoor", sum := "66ec7b7fc736242e5e17cc8f4e271467faf5d5afb6b3c84fc64f19a1ef5f6206", func := "dipworks/dipworkslaw10.FlagLooks", spec := "flagLooks", unfollowed := true, recurses := true, named := ["math/bits.deBruijn32tab", "math/bits.deBruijn64tab"], plainKeys := false, apart := false, laid := [("math/bits.deBruijn32tab", laid_math_bits_deBruijn32tab), ("math/bits.deBruijn64tab", laid_math_bits_deBruijn64tab)] }
def FlagLooksSaid : Prop := flagLooksRow.holds Tryd.pinned (OpenSpec.ofChange flagLooksSpec)

/-- ITS FALSE NEIGHBOUR: 'it returns false'. Refute it at one input. -/
def flagLooksWrong : ChangeSpec := { name := "flagLooks", fn := fun _ => fun
  | [d1, d2, d3] => { results := [.lit (.bool false)], args := [d1, d2, d3] }
  | _ => none }
def FlagLooksWrongFalsely : Prop := flagLooksRow.holds Tryd.pinned (OpenSpec.ofChange flagLooksWrong)

/-- 'dipworkslaw10.FlagProves': WHATEVER THE INPUT: true; the input reads as it did. -/
def flagProvesSpec : ChangeSpec := { name := "flagProves", fn := fun _ => fun
  | [d] => { results := [.lit (.bool true)], args := [d] }
  | _ => none }
def flagProvesRow : OpenClaim := { program := "ytkbjodmpmmnhgaadoor", sum := "66ec7b7fc736242e5e17cc8f4e271467faf5d5afb6b3c84fc64f19a1ef5f6206", func := "dipworks/dipworkslaw10.FlagProves", spec := "flagProves", unfollowed := true, recurses := true, named := ["math/bits.deBruijn32tab", "math/bits.deBruijn64tab"], plainKeys := false, apart := false, laid := [("math/bits.deBruijn32tab", laid_math_bits_deBruijn32tab), ("math/bits.deBruijn64tab", laid_math_bits_deBruijn64tab)] }
def FlagProvesSaid : Prop := flagProvesRow.holds Tryd.pinned (OpenSpec.ofChange flagProvesSpec)

/-- ITS FALSE NEIGHBOUR: 'it returns false'. Refute it at one input. -/
def flagProvesWrong : ChangeSpec := { name := "flagProves", fn := fun _ => fun
  | [d] => { results := [.lit (.bool false)], args := [d] }
  | _ => none }
def FlagProvesWrongFalsely : Prop := flagProvesRow.holds Tryd.pinned (OpenSpec.ofChange flagProvesWrong)

/-- 'dipworkslaw10.FlagTrue': WHATEVER THE INPUT: true; the input reads as it did. -/
def flagTrueSpec : ChangeSpec := { name := "flagTrue", fn := fun _ => fun
  | [d1, d2] => { results := [.lit (.bool true)], args := [d1, d2] }
  | _ => none }
def flagTrueRow : OpenClaim := { program := "ytkbjodmpmmnhgaadoor", sum := "66ec7b7fc736242e5e17cc8f4e271467faf5d5afb6b3c84fc64f19a1ef5f6206", func := "dipworks/dipworkslaw10.FlagTrue", spec := "flagTrue", unfollowed := true, recurses := true, named := ["math/bits.deBruijn32tab", "math/bits.deBruijn64tab"], plainKeys := false, apart := false, laid := [("math/bits.deBruijn32tab", laid_math_bits_deBruijn32tab), ("math/bits.deBruijn64tab", laid_math_bits_deBruijn64tab)] }
def FlagTrueSaid : Prop := flagTrueRow.holds Tryd.pinned (OpenSpec.ofChange flagTrueSpec)

/-- ITS FALSE NEIGHBOUR: 'it returns false'. Refute it at one input. -/
def flagTrueWrong : ChangeSpec := { name := "flagTrue", fn := fun _ => fun
  | [d1, d2] => { results := [.lit (.bool false)], args := [d1, d2] }
  | _ => none }
def FlagTrueWrongFalsely : Prop := flagTrueRow.holds Tryd.pinned (OpenSpec.ofChange flagTrueWrong)

/-- 'dipworkslaw10.FlagEnds': WHATEVER THE INPUT: true; the input reads as it did. -/
def flagEndsSpec : ChangeSpec := { name := "flagEnds", fn := fun _ => fun
  | [d1, d2, d3] => { results := [.lit (.bool true)], args := [d1, d2, d3] }
  | _ => none }
def flagEndsRow : OpenClaim := { program := "ytkbjodmpmmnhgaadoor", sum := "66ec7b7fc736242e5e17cc8f4e271467faf5d5afb6b3c84fc64f19a1ef5f6206", func := "dipworks/dipworkslaw10.FlagEnds", spec := "flagEnds", unfollowed := true, recurses := true, named := ["math/bits.deBruijn32tab", "math/bits.deBruijn64tab"], plainKeys := false, apart := false, laid := [("math/bits.deBruijn32tab", laid_math_bits_deBruijn32tab), ("math/bits.deBruijn64tab", laid_math_bits_deBruijn64tab)] }
def FlagEndsSaid : Prop := flagEndsRow.holds Tryd.pinned (OpenSpec.ofChange flagEndsSpec)

/-- ITS FALSE NEIGHBOUR: 'it returns false'. Refute it at one input. -/
def flagEndsWrong : ChangeSpec := { name := "flagEnds", fn := fun _ => fun
  | [d1, d2, d3] => { results := [.lit (.bool false)], args := [d1, d2, d3] }
  | _ => none }
def FlagEndsWrongFalsely : Prop := flagEndsRow.holds Tryd.pinned (OpenSpec.ofChange flagEndsWrong)

/-- 'dipworkslaw10.FlagUnder': WHATEVER THE INPUT: true; the input reads as it did. -/
def flagUnderSpec : ChangeSpec := { name := "flagUnder", fn := fun _ => fun
  | [d1, d2, d3] => { results := [.lit (.bool true)], args := [d1, d2, d3] }
  | _ => none }
def flagUnderRow : OpenClaim := { program := "ytkbjodmpmmnhgaadoor", sum := "66ec7b7fc736242e5e17cc8f4e271467faf5d5afb6b3c84fc64f19a1ef5f6206", func := "dipworks/dipworkslaw10.FlagUnder", spec := "flagUnder", unfollowed := true, recurses := true, named := ["math/bits.deBruijn32tab", "math/bits.deBruijn64tab"], plainKeys := false, apart := false, laid := [("math/bits.deBruijn32tab", laid_math_bits_deBruijn32tab), ("math/bits.deBruijn64tab", laid_math_bits_deBruijn64tab)] }
def FlagUnderSaid : Prop := flagUnderRow.holds Tryd.pinned (OpenSpec.ofChange flagUnderSpec)

/-- ITS FALSE NEIGHBOUR: 'it returns false'. Refute it at one input. -/
def flagUnderWrong : ChangeSpec := { name := "flagUnder", fn := fun _ => fun
  | [d1, d2, d3] => { results := [.lit (.bool false)], args := [d1, d2, d3] }
  | _ => none }
def FlagUnderWrongFalsely : Prop := flagUnderRow.holds Tryd.pinned (OpenSpec.ofChange flagUnderWrong)

/-- 'dipworkslaw10.FlagAsk': WHATEVER THE INPUT: true; the input reads as it did. -/
def flagAskSpec : ChangeSpec := { name := "flagAsk", fn := fun _ => fun
  | [d1, d2] => { results := [.lit (.bool true)], args := [d1, d2] }
  | _ => none }
def flagAskRow : OpenClaim := { program := "ytkbjodmpmmnhgaadoor", sum := "66ec7b7fc736242e5e17cc8f4e271467faf5d5afb6b3c84fc64f19a1ef5f6206", func := "dipworks/dipworkslaw10.FlagAsk", spec := "flagAsk", unfollowed := true, recurses := true, named := ["math/bits.deBruijn32tab", "math/bits.deBruijn64tab"], plainKeys := false, apart := false, laid := [("math/bits.deBruijn32tab", laid_math_bits_deBruijn32tab), ("math/bits.deBruijn64tab", laid_math_bits_deBruijn64tab)] }
def FlagAskSaid : Prop := flagAskRow.holds Tryd.pinned (OpenSpec.ofChange flagAskSpec)

/-- ITS FALSE NEIGHBOUR: 'it returns false'. Refute it at one input. -/
def flagAskWrong : ChangeSpec := { name := "flagAsk", fn := fun _ => fun
  | [d1, d2] => { results := [.lit (.bool false)], args := [d1, d2] }
  | _ => none }
def FlagAskWrongFalsely : Prop := flagAskRow.holds Tryd.pinned (OpenSpec.ofChange flagAskWrong)

/-- 'dipworkslaw10.FlagWrong': WHATEVER THE INPUT: true; the input reads as it did. -/
def flagWrongSpec : ChangeSpec := { name := "flagWrong", fn := fun _ => fun
  | [d1, d2] => { results := [.lit (.bool true)], args := [d1, d2] }
  | _ => none }
def flagWrongRow : OpenClaim := { program := "ytkbjodmpmmnhgaadoor", sum := "66ec7b7fc736242e5e17cc8f4e271467faf5d5afb6b3c84fc64f19a1ef5f6206", func := "dipworks/dipworkslaw10.FlagWrong", spec := "flagWrong", unfollowed := true, recurses := true, named := ["math/bits.deBruijn32tab", "math/bits.deBruijn64tab"], plainKeys := false, apart := false, laid := [("math/bits.deBruijn32tab", laid_math_bits_deBruijn32tab), ("math/bits.deBruijn64tab", laid_math_bits_deBruijn64tab)] }
def FlagWrongSaid : Prop := flagWrongRow.holds Tryd.pinned (OpenSpec.ofChange flagWrongSpec)

/-- ITS FALSE NEIGHBOUR: 'it returns false'. Refute it at one input. -/
def flagWrongWrong : ChangeSpec := { name := "flagWrong", fn := fun _ => fun
  | [d1, d2] => { results := [.lit (.bool false)], args := [d1, d2] }
  | _ => none }
def FlagWrongWrongFalsely : Prop := flagWrongRow.holds Tryd.pinned (OpenSpec.ofChange flagWrongWrong)

/-- 'dipworkslaw10.FlagMore': WHATEVER THE INPUT: true; the input reads as it did. -/
def flagMoreSpec : ChangeSpec := { name := "flagMore", fn := fun _ => fun
  | [d1, d2, d3, d4] => { results := [.lit (.bool true)], args := [d1, d2, d3, d4] }
  | _ => none }
def flagMoreRow : OpenClaim := { program := "ytkbjodmpmmnhgaadoor", sum := "66ec7b7fc736242e5e17cc8f4e271467faf5d5afb6b3c84fc64f19a1ef5f6206", func := "dipworks/dipworkslaw10.FlagMore", spec := "flagMore", unfollowed := true, recurses := true, named := ["math/bits.deBruijn32tab", "math/bits.deBruijn64tab"], plainKeys := false, apart := false, laid := [("math/bits.deBruijn32tab", laid_math_bits_deBruijn32tab), ("math/bits.deBruijn64tab", laid_math_bits_deBruijn64tab)] }
def FlagMoreSaid : Prop := flagMoreRow.holds Tryd.pinned (OpenSpec.ofChange flagMoreSpec)

/-- ITS FALSE NEIGHBOUR: 'it returns false'. Refute it at one input. -/
def flagMoreWrong : ChangeSpec := { name := "flagMore", fn := fun _ => fun
  | [d1, d2, d3, d4] => { results := [.lit (.bool false)], args := [d1, d2, d3, d4] }
  | _ => none }
def FlagMoreWrongFalsely : Prop := flagMoreRow.holds Tryd.pinned (OpenSpec.ofChange flagMoreWrong)

/-- 'dipworkslaw10.FlagTwice': WHATEVER THE INPUT: true; the input reads as it did. -/
def flagTwiceSpec : ChangeSpec := { name := "flagTwice", fn := fun _ => fun
  | [d1, d2] => { results := [.lit (.bool true)], args := [d1, d2] }
  | _ => none }
def flagTwiceRow : OpenClaim := { program := "ytkbjodmpmmnhgaadoor", sum := "66ec7b7fc736242e5e17cc8f4e271467faf5d5afb6b3c84fc64f19a1ef5f6206", func := "dipworks/dipworkslaw10.FlagTwice", spec := "flagTwice", unfollowed := true, recurses := true, named := ["math/bits.deBruijn32tab", "math/bits.deBruijn64tab"], plainKeys := false, apart := false, laid := [("math/bits.deBruijn32tab", laid_math_bits_deBruijn32tab), ("math/bits.deBruijn64tab", laid_math_bits_deBruijn64tab)] }
def FlagTwiceSaid : Prop := flagTwiceRow.holds Tryd.pinned (OpenSpec.ofChange flagTwiceSpec)

/-- ITS FALSE NEIGHBOUR: 'it returns false'. Refute it at one input. -/
def flagTwiceWrong : ChangeSpec := { name := "flagTwice", fn := fun _ => fun
  | [d1, d2] => { results := [.lit (.bool false)], args := [d1, d2] }
  | _ => none }
def FlagTwiceWrongFalsely : Prop := flagTwiceRow.holds Tryd.pinned (OpenSpec.ofChange flagTwiceWrong)

/- THE SECOND FORM. 'bulk': how many values and letters a reading holds, each counted each time it is reached (what is shared counts as often as it is met; a slice's spare places count too). A statement '..UptoSaid' is the law's where the arguments, and the package variables that the reading takes, are together of bulk at most 1048576: NARROWER than '..Said'. Prove '..Said' where nothing that the law and all that it calls make is longer than what came in: it says more and counts as full. Else prove '..UptoSaid'. A law counts once. -/
mutual
def uptoBulk {H : Type} : DataW H → Nat
  | .lit (.string bytes) => bytes.length + 1
  | .lit _ => 1
  | .nil => 1
  | .ptr d => uptoBulk d + 1
  | .slice elems spare => uptoBulkAll elems + uptoBulkAll spare + 1
  | .agg parts => uptoBulkAll parts + 1
  | .iface _ d => uptoBulk d + 1
  | .map entries => uptoBulkEntries entries + 1
  | .held _ => 1
def uptoBulkAll {H : Type} : List (DataW H) → Nat
  | [] => 0
  | d :: r => uptoBulk d + uptoBulkAll r
def uptoBulkEntries {H : Type} : List (Lit × DataW H) → Nat
  | [] => 0
  | x :: r => uptoBulkEntry x + uptoBulkEntries r
def uptoBulkEntry {H : Type} : Lit × DataW H → Nat
  | (.string bytes, d) => bytes.length + uptoBulk d + 1
  | (_, d) => uptoBulk d + 1
 end
def uptoSmall : (H : Type) → List (DataW H) → Bool := fun _ ds => decide (uptoBulkAll ds ≤ 1048576)
def OpenSpec.upto (s : _root_.Go.ChangeSpec) : _root_.Go.OpenSpec := { _root_.Go.OpenSpec.ofChange s with cond := some uptoSmall }

/-- 'dipworkslaw10.FlagReads', WHERE WHAT IT READS IS OF BULK AT MOST 1048576: true; the input reads as it did. -/
def flagReadsUptoRow : OpenClaim := { program := "ytkbjodmpmmnhgaadoor", sum := "66ec7b7fc736242e5e17cc8f4e271467faf5d5afb6b3c84fc64f19a1ef5f6206", func := "dipworks/dipworkslaw10.FlagReads", spec := "flagReads", unfollowed := true, recurses := true, named := ["math/bits.deBruijn32tab", "math/bits.deBruijn64tab"], plainKeys := false, apart := false, laid := [("math/bits.deBruijn32tab", laid_math_bits_deBruijn32tab), ("math/bits.deBruijn64tab", laid_math_bits_deBruijn64tab)], narrowed := true }
def FlagReadsUptoSaid : Prop := flagReadsUptoRow.holds Tryd.pinned (OpenSpec.upto flagReadsSpec)

/-- 'dipworkslaw10.FlagLooks', WHERE WHAT IT READS IS OF BULK AT MOST 1048576: true; the input reads as it did. -/
def flagLooksUptoRow : OpenClaim := { program := "ytkbjodmpmmnhgaadoor", sum := "66ec7b7fc736242e5e17cc8f4e271467faf5d5afb6b3c84fc64f19a1ef5f6206", func := "dipworks/dipworkslaw10.FlagLooks", spec := "flagLooks", unfollowed := true, recurses := true, named := ["math/bits.deBruijn32tab", "math/bits.deBruijn64tab"], plainKeys := false, apart := false, laid := [("math/bits.deBruijn32tab", laid_math_bits_deBruijn32tab), ("math/bits.deBruijn64tab", laid_math_bits_deBruijn64tab)], narrowed := true }
def FlagLooksUptoSaid : Prop := flagLooksUptoRow.holds Tryd.pinned (OpenSpec.upto flagLooksSpec)

/-- 'dipworkslaw10.FlagProves', WHERE WHAT IT READS IS OF BULK AT MOST 1048576: true; the input reads as it did. -/
def flagProvesUptoRow : OpenClaim := { program := "ytkbjodmpmmnhgaadoor", sum := "66ec7b7fc736242e5e17cc8f4e271467faf5d5afb6b3c84fc64f19a1ef5f6206", func := "dipworks/dipworkslaw10.FlagProves", spec := "flagProves", unfollowed := true, recurses := true, named := ["math/bits.deBruijn32tab", "math/bits.deBruijn64tab"], plainKeys := false, apart := false, laid := [("math/bits.deBruijn32tab", laid_math_bits_deBruijn32tab), ("math/bits.deBruijn64tab", laid_math_bits_deBruijn64tab)], narrowed := true }
def FlagProvesUptoSaid : Prop := flagProvesUptoRow.holds Tryd.pinned (OpenSpec.upto flagProvesSpec)

/-- 'dipworkslaw10.FlagTrue', WHERE WHAT IT READS IS OF BULK AT MOST 1048576: true; the input reads as it did. -/
def flagTrueUptoRow : OpenClaim := { program := "ytkbjodmpmmnhgaadoor", sum := "66ec7b7fc736242e5e17cc8f4e271467faf5d5afb6b3c84fc64f19a1ef5f6206", func := "dipworks/dipworkslaw10.FlagTrue", spec := "flagTrue", unfollowed := true, recurses := true, named := ["math/bits.deBruijn32tab", "math/bits.deBruijn64tab"], plainKeys := false, apart := false, laid := [("math/bits.deBruijn32tab", laid_math_bits_deBruijn32tab), ("math/bits.deBruijn64tab", laid_math_bits_deBruijn64tab)], narrowed := true }
def FlagTrueUptoSaid : Prop := flagTrueUptoRow.holds Tryd.pinned (OpenSpec.upto flagTrueSpec)

/-- 'dipworkslaw10.FlagEnds', WHERE WHAT IT READS IS OF BULK AT MOST 1048576: true; the input reads as it did. -/
def flagEndsUptoRow : OpenClaim := { program := "ytkbjodmpmmnhgaadoor", sum := "66ec7b7fc736242e5e17cc8f4e271467faf5d5afb6b3c84fc64f19a1ef5f6206", func := "dipworks/dipworkslaw10.FlagEnds", spec := "flagEnds", unfollowed := true, recurses := true, named := ["math/bits.deBruijn32tab", "math/bits.deBruijn64tab"], plainKeys := false, apart := false, laid := [("math/bits.deBruijn32tab", laid_math_bits_deBruijn32tab), ("math/bits.deBruijn64tab", laid_math_bits_deBruijn64tab)], narrowed := true }
def FlagEndsUptoSaid : Prop := flagEndsUptoRow.holds Tryd.pinned (OpenSpec.upto flagEndsSpec)

/-- 'dipworkslaw10.FlagUnder', WHERE WHAT IT READS IS OF BULK AT MOST 1048576: true; the input reads as it did. -/
def flagUnderUptoRow : OpenClaim := { program := "ytkbjodmpmmnhgaadoor", sum := "66ec7b7fc736242e5e17cc8f4e271467faf5d5afb6b3c84fc64f19a1ef5f6206", func := "dipworks/dipworkslaw10.FlagUnder", spec := "flagUnder", unfollowed := true, recurses := true, named := ["math/bits.deBruijn32tab", "math/bits.deBruijn64tab"], plainKeys := false, apart := false, laid := [("math/bits.deBruijn32tab", laid_math_bits_deBruijn32tab), ("math/bits.deBruijn64tab", laid_math_bits_deBruijn64tab)], narrowed := true }
def FlagUnderUptoSaid : Prop := flagUnderUptoRow.holds Tryd.pinned (OpenSpec.upto flagUnderSpec)

/-- 'dipworkslaw10.FlagAsk', WHERE WHAT IT READS IS OF BULK AT MOST 1048576: true; the input reads as it did. -/
def flagAskUptoRow : OpenClaim := { program := "ytkbjodmpmmnhgaadoor", sum := "66ec7b7fc736242e5e17cc8f4e271467faf5d5afb6b3c84fc64f19a1ef5f6206", func := "dipworks/dipworkslaw10.FlagAsk", spec := "flagAsk", unfollowed := true, recurses := true, named := ["math/bits.deBruijn32tab", "math/bits.deBruijn64tab"], plainKeys := false, apart := false, laid := [("math/bits.deBruijn32tab", laid_math_bits_deBruijn32tab), ("math/bits.deBruijn64tab", laid_math_bits_deBruijn64tab)], narrowed := true }
def FlagAskUptoSaid : Prop := flagAskUptoRow.holds Tryd.pinned (OpenSpec.upto flagAskSpec)

/-- 'dipworkslaw10.FlagWrong', WHERE WHAT IT READS IS OF BULK AT MOST 1048576: true; the input reads as it did. -/
def flagWrongUptoRow : OpenClaim := { program := "ytkbjodmpmmnhgaadoor", sum := "66ec7b7fc736242e5e17cc8f4e271467faf5d5afb6b3c84fc64f19a1ef5f6206", func := "dipworks/dipworkslaw10.FlagWrong", spec := "flagWrong", unfollowed := true, recurses := true, named := ["math/bits.deBruijn32tab", "math/bits.deBruijn64tab"], plainKeys := false, apart := false, laid := [("math/bits.deBruijn32tab", laid_math_bits_deBruijn32tab), ("math/bits.deBruijn64tab", laid_math_bits_deBruijn64tab)], narrowed := true }
def FlagWrongUptoSaid : Prop := flagWrongUptoRow.holds Tryd.pinned (OpenSpec.upto flagWrongSpec)

/-- 'dipworkslaw10.FlagMore', WHERE WHAT IT READS IS OF BULK AT MOST 1048576: true; the input reads as it did. -/
def flagMoreUptoRow : OpenClaim := { program := "ytkbjodmpmmnhgaadoor", sum := "66ec7b7fc736242e5e17cc8f4e271467faf5d5afb6b3c84fc64f19a1ef5f6206", func := "dipworks/dipworkslaw10.FlagMore", spec := "flagMore", unfollowed := true, recurses := true, named := ["math/bits.deBruijn32tab", "math/bits.deBruijn64tab"], plainKeys := false, apart := false, laid := [("math/bits.deBruijn32tab", laid_math_bits_deBruijn32tab), ("math/bits.deBruijn64tab", laid_math_bits_deBruijn64tab)], narrowed := true }
def FlagMoreUptoSaid : Prop := flagMoreUptoRow.holds Tryd.pinned (OpenSpec.upto flagMoreSpec)

/-- 'dipworkslaw10.FlagTwice', WHERE WHAT IT READS IS OF BULK AT MOST 1048576: true; the input reads as it did. -/
def flagTwiceUptoRow : OpenClaim := { program := "ytkbjodmpmmnhgaadoor", sum := "66ec7b7fc736242e5e17cc8f4e271467faf5d5afb6b3c84fc64f19a1ef5f6206", func := "dipworks/dipworkslaw10.FlagTwice", spec := "flagTwice", unfollowed := true, recurses := true, named := ["math/bits.deBruijn32tab", "math/bits.deBruijn64tab"], plainKeys := false, apart := false, laid := [("math/bits.deBruijn32tab", laid_math_bits_deBruijn32tab), ("math/bits.deBruijn64tab", laid_math_bits_deBruijn64tab)], narrowed := true }
def FlagTwiceUptoSaid : Prop := flagTwiceUptoRow.holds Tryd.pinned (OpenSpec.upto flagTwiceSpec)

end Rows
end Go.Proofs.YtkbjodmpmmnhgaaDoor
