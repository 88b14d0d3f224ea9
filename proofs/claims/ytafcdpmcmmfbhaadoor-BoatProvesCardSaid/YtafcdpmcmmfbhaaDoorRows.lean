/-
  NARROWER THAN 'FOR EVERY INPUT', by the rows' own cells (each row's printed sentence says how): BoatReads: laid · BoatLooks: laid · BoatProves: laid · BoatTrue: laid · BoatSteps: laid · BoatNear: laid · BoatMet: laid · BoatSpeed: laid · BoatWrong: laid · BoatMore: laid · BoatTurned: laid.
  DERIVED. THE GIVEN ROWS OF THIS SEAT. 11 by the template 'for every input the law returns true; each argument reads behind the call as it read before'; 0 by the template 'total and deterministic' (their statements: YtafcdpmcmmfbhaaDoorTotals.lean).
  GIVEN WITH THE SEED: the statements are not yours to turn. If you find one false, say at which input.
  Laid BY PROGRAM, IN A SANDBOX (cutbox-rows.mjs): the forced cells as the released guide's own fill.sh prints them over the translation f36c0d996ea84836… (all of the seat's roots in one cut). By AI agents, Wed Nov 11 2026. No macro, syntax, notation, axiom, sorry.
-/
import Derived.Test.YtafcdpmcmmfbhaaDoorChecked
import GoSem.Claim
import GoSem.ClaimJoined
import GoSem.ClaimMapViews
import Derived.JoinedTies
import Derived.KernelRfl
namespace Go.Proofs.YtafcdpmcmmfbhaaDoor
/- THE CELL 'sum', in the pinned program and in every row, IS THE sha256 OF THE DUMP (.gsa) THAT YtafcdpmcmmfbhaaDoorProg.lean LOADS. Nothing in Lean hashes anything: it is a label: what it is worth is what the hold of that sum in a sandbox is worth. -/
noncomputable def Tryd.pinned : Pinned := { name := "ytafcdpmcmmfbhaadoor", sum := "f36c0d996ea84836402f43e3a5b075a9dfaedf9eaefe424d91be936f1533fa9f", checked := Tryd.checked }
namespace Rows
def none {H : Type} : Left H := { results := [], args := [] }

/- WHAT THE LISTED PACKAGE-LEVEL VARIABLES READ AS WHEN THE CALL BEGINS. Each datum BY PROGRAM (the guide's laid-datum.mjs) off the statement by which the dump's own 'gosem.cut.vars' lays the variable. In a bare row this is a premise. The card (YtafcdpmcmmfbhaaDoorCards.lean) ties it to the program's text. -/
def laid_math_bits_deBruijn64tab {H : Type} : DataW H := .agg [.lit (.int .u8 0), .lit (.int .u8 1), .lit (.int .u8 56), .lit (.int .u8 2), .lit (.int .u8 57), .lit (.int .u8 49), .lit (.int .u8 28), .lit (.int .u8 3), .lit (.int .u8 61), .lit (.int .u8 58), .lit (.int .u8 42), .lit (.int .u8 50), .lit (.int .u8 38), .lit (.int .u8 29), .lit (.int .u8 17), .lit (.int .u8 4), .lit (.int .u8 62), .lit (.int .u8 47), .lit (.int .u8 59), .lit (.int .u8 36), .lit (.int .u8 45), .lit (.int .u8 43), .lit (.int .u8 51), .lit (.int .u8 22), .lit (.int .u8 53), .lit (.int .u8 39), .lit (.int .u8 33), .lit (.int .u8 30), .lit (.int .u8 24), .lit (.int .u8 18), .lit (.int .u8 12), .lit (.int .u8 5), .lit (.int .u8 63), .lit (.int .u8 55), .lit (.int .u8 48), .lit (.int .u8 27), .lit (.int .u8 60), .lit (.int .u8 41), .lit (.int .u8 37), .lit (.int .u8 16), .lit (.int .u8 46), .lit (.int .u8 35), .lit (.int .u8 44), .lit (.int .u8 21), .lit (.int .u8 52), .lit (.int .u8 32), .lit (.int .u8 23), .lit (.int .u8 11), .lit (.int .u8 54), .lit (.int .u8 26), .lit (.int .u8 40), .lit (.int .u8 15), .lit (.int .u8 34), .lit (.int .u8 20), .lit (.int .u8 31), .lit (.int .u8 10), .lit (.int .u8 25), .lit (.int .u8 14), .lit (.int .u8 19), .lit (.int .u8 9), .lit (.int .u8 13), .lit (.int .u8 8), .lit (.int .u8 7), .lit (.int .u8 6)]

/-- 'dipworkslaw12.BoatReads': WHATEVER THE INPUT: true; the input reads as it did. -/
def boatReadsSpec : ChangeSpec := { name := "boatReads", fn := fun _ => fun
  | [d1, d2, d3, d4] => { results := [.lit (.bool true)], args := [d1, d2, d3, d4] }
  | _ => none }
def boatReadsRow : OpenClaim := { program := "ytafcdpmcmmfbhaadoor", sum := "f36c0d996ea84836402f43e3a5b075a9dfaedf9eaefe424d91be936f1533fa9f", func := "dipworks/dipworkslaw12.BoatReads", spec := "boatReads", unfollowed := true, recurses := true, named := ["math/bits.deBruijn64tab"], plainKeys := false, apart := false, laid := [("math/bits.deBruijn64tab", laid_math_bits_deBruijn64tab)] }
def BoatReadsSaid : Prop := boatReadsRow.holds Tryd.pinned (OpenSpec.ofChange boatReadsSpec)

/-- ITS FALSE NEIGHBOUR: 'it returns false'. Refute it at one input. -/
def boatReadsWrong : ChangeSpec := { name := "boatReads", fn := fun _ => fun
  | [d1, d2, d3, d4] => { results := [.lit (.bool false)], args := [d1, d2, d3, d4] }
  | _ => none }
def BoatReadsWrongFalsely : Prop := boatReadsRow.holds Tryd.pinned (OpenSpec.ofChange boatReadsWrong)

/-- 'dipworkslaw12.BoatLooks': WHATEVER THE INPUT: true; the input reads as it did. -/
def boatLooksSpec : ChangeSpec := { name := "boatLooks", fn := fun _ => fun
  | [d1, d2, d3, d4, d5] => { results := [.lit (.bool true)], args := [d1, d2, d3, d4, d5] }
  | _ => none }
def boatLooksRow : OpenClaim := { program := "ytafcdpmcmmfbhaadoor", sum := "f36c0d996ea84836402f43e3a5b075a9dfaedf9eaefe424d91be936f1533fa9f", func := "dipworks/dipworkslaw12.BoatLooks", spec := "boatLooks", unfollowed := true, recurses := true, named := ["math/bits.deBruijn64tab"], plainKeys := false, apart := false, laid := [("math/bits.deBruijn64tab", laid_math_bits_deBruijn64tab)] }
def BoatLooksSaid : Prop := boatLooksRow.holds Tryd.pinned (OpenSpec.ofChange boatLooksSpec)

/-- ITS FALSE NEIGHBOUR: 'it returns false'. Refute it at one input. -/
def boatLooksWrong : ChangeSpec := { name := "boatLooks", fn := fun _ => fun
  | [d1, d2, d3, d4, d5] => { results := [.lit (.bool false)], args := [d1, d2, d3, d4, d5] }
  | _ => none }
def BoatLooksWrongFalsely : Prop := boatLooksRow.holds Tryd.pinned (OpenSpec.ofChange boatLooksWrong)

/-- 'dipworkslaw12.BoatProves': WHATEVER THE INPUT: true; the input reads as it did. -/
def boatProvesSpec : ChangeSpec := { name := "boatProves", fn := fun _ => fun
  | [d1, d2] => { results := [.lit (.bool true)], args := [d1, d2] }
  | _ => none }
def boatProvesRow : OpenClaim := { program := "ytafcdpmcmmfbhaadoor", sum := "f36c0d996ea84836402f43e3a5b075a9dfaedf9eaefe424d91be936f1533fa9f", func := "dipworks/dipworkslaw12.BoatProves", spec := "boatProves", unfollowed := true, recurses := true, named := ["math/bits.deBruijn64tab"], plainKeys := false, apart := false, laid := [("math/bits.deBruijn64tab", laid_math_bits_deBruijn64tab)] }
def BoatProvesSaid : Prop := boatProvesRow.holds Tryd.pinned (OpenSpec.ofChange boatProvesSpec)

/-- ITS FALSE NEIGHBOUR: 'it returns false'. Refute it at one input. -/
def boatProvesWrong : ChangeSpec := { name := "boatProves", fn := fun _ => fun
  | [d1, d2] => { results := [.lit (.bool false)], args := [d1, d2] }
  | _ => none }
def BoatProvesWrongFalsely : Prop := boatProvesRow.holds Tryd.pinned (OpenSpec.ofChange boatProvesWrong)

/-- 'dipworkslaw12.BoatTrue': WHATEVER THE INPUT: true; the input reads as it did. -/
def boatTrueSpec : ChangeSpec := { name := "boatTrue", fn := fun _ => fun
  | [d1, d2, d3, d4, d5, d6] => { results := [.lit (.bool true)], args := [d1, d2, d3, d4, d5, d6] }
  | _ => none }
def boatTrueRow : OpenClaim := { program := "ytafcdpmcmmfbhaadoor", sum := "f36c0d996ea84836402f43e3a5b075a9dfaedf9eaefe424d91be936f1533fa9f", func := "dipworks/dipworkslaw12.BoatTrue", spec := "boatTrue", unfollowed := true, recurses := true, named := ["math/bits.deBruijn64tab"], plainKeys := false, apart := false, laid := [("math/bits.deBruijn64tab", laid_math_bits_deBruijn64tab)] }
def BoatTrueSaid : Prop := boatTrueRow.holds Tryd.pinned (OpenSpec.ofChange boatTrueSpec)

/-- ITS FALSE NEIGHBOUR: 'it returns false'. Refute it at one input. -/
def boatTrueWrong : ChangeSpec := { name := "boatTrue", fn := fun _ => fun
  | [d1, d2, d3, d4, d5, d6] => { results := [.lit (.bool false)], args := [d1, d2, d3, d4, d5, d6] }
  | _ => none }
def BoatTrueWrongFalsely : Prop := boatTrueRow.holds Tryd.pinned (OpenSpec.ofChange boatTrueWrong)

/-- 'dipworkslaw12.BoatSteps': WHATEVER THE INPUT: true; the input reads as it did. -/
def boatStepsSpec : ChangeSpec := { name := "boatSteps", fn := fun _ => fun
  | [d1, d2, d3] => { results := [.lit (.bool true)], args := [d1, d2, d3] }
  | _ => none }
def boatStepsRow : OpenClaim := { program := "ytafcdpmcmmfbhaadoor", sum := "f36c0d996ea84836402f43e3a5b075a9dfaedf9eaefe424d91be936f1533fa9f", func := "dipworks/dipworkslaw12.BoatSteps", spec := "boatSteps", unfollowed := true, recurses := true, named := ["math/bits.deBruijn64tab"], plainKeys := false, apart := false, laid := [("math/bits.deBruijn64tab", laid_math_bits_deBruijn64tab)] }
def BoatStepsSaid : Prop := boatStepsRow.holds Tryd.pinned (OpenSpec.ofChange boatStepsSpec)

/-- ITS FALSE NEIGHBOUR: 'it returns false'. Refute it at one input. -/
def boatStepsWrong : ChangeSpec := { name := "boatSteps", fn := fun _ => fun
  | [d1, d2, d3] => { results := [.lit (.bool false)], args := [d1, d2, d3] }
  | _ => none }
def BoatStepsWrongFalsely : Prop := boatStepsRow.holds Tryd.pinned (OpenSpec.ofChange boatStepsWrong)

/-- 'dipworkslaw12.BoatNear': WHATEVER THE INPUT: true; the input reads as it did. -/
def boatNearSpec : ChangeSpec := { name := "boatNear", fn := fun _ => fun
  | [d1, d2, d3, d4] => { results := [.lit (.bool true)], args := [d1, d2, d3, d4] }
  | _ => none }
def boatNearRow : OpenClaim := { program := "ytafcdpmcmmfbhaadoor", sum := "f36c0d996ea84836402f43e3a5b075a9dfaedf9eaefe424d91be936f1533fa9f", func := "dipworks/dipworkslaw12.BoatNear", spec := "boatNear", unfollowed := true, recurses := true, named := ["math/bits.deBruijn64tab"], plainKeys := false, apart := false, laid := [("math/bits.deBruijn64tab", laid_math_bits_deBruijn64tab)] }
def BoatNearSaid : Prop := boatNearRow.holds Tryd.pinned (OpenSpec.ofChange boatNearSpec)

/-- ITS FALSE NEIGHBOUR: 'it returns false'. Refute it at one input. -/
def boatNearWrong : ChangeSpec := { name := "boatNear", fn := fun _ => fun
  | [d1, d2, d3, d4] => { results := [.lit (.bool false)], args := [d1, d2, d3, d4] }
  | _ => none }
def BoatNearWrongFalsely : Prop := boatNearRow.holds Tryd.pinned (OpenSpec.ofChange boatNearWrong)

/-- 'dipworkslaw12.BoatMet': WHATEVER THE INPUT: true; the input reads as it did. -/
def boatMetSpec : ChangeSpec := { name := "boatMet", fn := fun _ => fun
  | [d1, d2, d3, d4, d5] => { results := [.lit (.bool true)], args := [d1, d2, d3, d4, d5] }
  | _ => none }
def boatMetRow : OpenClaim := { program := "ytafcdpmcmmfbhaadoor", sum := "f36c0d996ea84836402f43e3a5b075a9dfaedf9eaefe424d91be936f1533fa9f", func := "dipworks/dipworkslaw12.BoatMet", spec := "boatMet", unfollowed := true, recurses := true, named := ["math/bits.deBruijn64tab"], plainKeys := false, apart := false, laid := [("math/bits.deBruijn64tab", laid_math_bits_deBruijn64tab)] }
def BoatMetSaid : Prop := boatMetRow.holds Tryd.pinned (OpenSpec.ofChange boatMetSpec)

/-- ITS FALSE NEIGHBOUR: 'it returns false'. Refute it at one input. -/
def boatMetWrong : ChangeSpec := { name := "boatMet", fn := fun _ => fun
  | [d1, d2, d3, d4, d5] => { results := [.lit (.bool false)], args := [d1, d2, d3, d4, d5] }
  | _ => none }
def BoatMetWrongFalsely : Prop := boatMetRow.holds Tryd.pinned (OpenSpec.ofChange boatMetWrong)

/-- 'dipworkslaw12.BoatSpeed': WHATEVER THE INPUT: true; the input reads as it did. -/
def boatSpeedSpec : ChangeSpec := { name := "boatSpeed", fn := fun _ => fun
  | [d1, d2, d3, d4] => { results := [.lit (.bool true)], args := [d1, d2, d3, d4] }
  | _ => none }
def boatSpeedRow : OpenClaim := { program := "ytafcdpmcmmfbhaadoor", sum := "f36c0d996ea84836402f43e3a5b075a9dfaedf9eaefe424d91be936f1533fa9f", func := "dipworks/dipworkslaw12.BoatSpeed", spec := "boatSpeed", unfollowed := true, recurses := true, named := ["math/bits.deBruijn64tab"], plainKeys := false, apart := false, laid := [("math/bits.deBruijn64tab", laid_math_bits_deBruijn64tab)] }
def BoatSpeedSaid : Prop := boatSpeedRow.holds Tryd.pinned (OpenSpec.ofChange boatSpeedSpec)

/-- ITS FALSE NEIGHBOUR: 'it returns false'. Refute it at one input. -/
def boatSpeedWrong : ChangeSpec := { name := "boatSpeed", fn := fun _ => fun
  | [d1, d2, d3, d4] => { results := [.lit (.bool false)], args := [d1, d2, d3, d4] }
  | _ => none }
def BoatSpeedWrongFalsely : Prop := boatSpeedRow.holds Tryd.pinned (OpenSpec.ofChange boatSpeedWrong)

/-- 'dipworkslaw12.BoatWrong': WHATEVER THE INPUT: true; the input reads as it did. -/
def boatWrongSpec : ChangeSpec := { name := "boatWrong", fn := fun _ => fun
  | [d1, d2, d3] => { results := [.lit (.bool true)], args := [d1, d2, d3] }
  | _ => none }
def boatWrongRow : OpenClaim := { program := "ytafcdpmcmmfbhaadoor", sum := "f36c0d996ea84836402f43e3a5b075a9dfaedf9eaefe424d91be936f1533fa9f", func := "dipworks/dipworkslaw12.BoatWrong", spec := "boatWrong", unfollowed := true, recurses := true, named := ["math/bits.deBruijn64tab"], plainKeys := false, apart := false, laid := [("math/bits.deBruijn64tab", laid_math_bits_deBruijn64tab)] }
def BoatWrongSaid : Prop := boatWrongRow.holds Tryd.pinned (OpenSpec.ofChange boatWrongSpec)

/-- ITS FALSE NEIGHBOUR: 'it returns false'. Refute it at one input. -/
def boatWrongWrong : ChangeSpec := { name := "boatWrong", fn := fun _ => fun
  | [d1, d2, d3] => { results := [.lit (.bool false)], args := [d1, d2, d3] }
  | _ => none }
def BoatWrongWrongFalsely : Prop := boatWrongRow.holds Tryd.pinned (OpenSpec.ofChange boatWrongWrong)

/-- 'dipworkslaw12.BoatMore': WHATEVER THE INPUT: true; the input reads as it did. -/
def boatMoreSpec : ChangeSpec := { name := "boatMore", fn := fun _ => fun
  | [d1, d2, d3, d4, d5] => { results := [.lit (.bool true)], args := [d1, d2, d3, d4, d5] }
  | _ => none }
def boatMoreRow : OpenClaim := { program := "ytafcdpmcmmfbhaadoor", sum := "f36c0d996ea84836402f43e3a5b075a9dfaedf9eaefe424d91be936f1533fa9f", func := "dipworks/dipworkslaw12.BoatMore", spec := "boatMore", unfollowed := true, recurses := true, named := ["math/bits.deBruijn64tab"], plainKeys := false, apart := false, laid := [("math/bits.deBruijn64tab", laid_math_bits_deBruijn64tab)] }
def BoatMoreSaid : Prop := boatMoreRow.holds Tryd.pinned (OpenSpec.ofChange boatMoreSpec)

/-- ITS FALSE NEIGHBOUR: 'it returns false'. Refute it at one input. -/
def boatMoreWrong : ChangeSpec := { name := "boatMore", fn := fun _ => fun
  | [d1, d2, d3, d4, d5] => { results := [.lit (.bool false)], args := [d1, d2, d3, d4, d5] }
  | _ => none }
def BoatMoreWrongFalsely : Prop := boatMoreRow.holds Tryd.pinned (OpenSpec.ofChange boatMoreWrong)

/-- 'dipworkslaw12.BoatTurned': WHATEVER THE INPUT: true; the input reads as it did. -/
def boatTurnedSpec : ChangeSpec := { name := "boatTurned", fn := fun _ => fun
  | [d1, d2, d3] => { results := [.lit (.bool true)], args := [d1, d2, d3] }
  | _ => none }
def boatTurnedRow : OpenClaim := { program := "ytafcdpmcmmfbhaadoor", sum := "f36c0d996ea84836402f43e3a5b075a9dfaedf9eaefe424d91be936f1533fa9f", func := "dipworks/dipworkslaw12.BoatTurned", spec := "boatTurned", unfollowed := true, recurses := true, named := ["math/bits.deBruijn64tab"], plainKeys := false, apart := false, laid := [("math/bits.deBruijn64tab", laid_math_bits_deBruijn64tab)] }
def BoatTurnedSaid : Prop := boatTurnedRow.holds Tryd.pinned (OpenSpec.ofChange boatTurnedSpec)

/-- ITS FALSE NEIGHBOUR: 'it returns false'. Refute it at one input. -/
def boatTurnedWrong : ChangeSpec := { name := "boatTurned", fn := fun _ => fun
  | [d1, d2, d3] => { results := [.lit (.bool false)], args := [d1, d2, d3] }
  | _ => none }
def BoatTurnedWrongFalsely : Prop := boatTurnedRow.holds Tryd.pinned (OpenSpec.ofChange boatTurnedWrong)

/- THE SECOND FORM. 'bulk': how many values and letters a reading holds, each counted each time it is reached (what is shared counts as often as it is met; a slice's spare places count too). A statement '..UptoSaid' is the law's where the arguments, and the package variables that the reading takes, are together of bulk at most 1048576: NARROWER than '..Said'. Prove '..Said' where nothing that the law and all that it calls make is longer than what came in: it says more and counts as full. Else prove '..UptoSaid'. A law counts once. -/
mutual
def uptoBulk {H : Type} : DataW H → Nat
  | .lit (.string bytes) => bytes.length + 1
  | .lit _ => 1
  | .nil => 1
  | .ptr d => uptoBulk d + 1
  | .slice elems spare => uptoBulkAll elems + uptoBulkAll spare + 1
  | .agg parts => uptoBulkAll parts + 1
  | .iface _ d => uptoBulk d + 1
  | .map entries => uptoBulkEntries entries + 1
  | .held _ => 1
def uptoBulkAll {H : Type} : List (DataW H) → Nat
  | [] => 0
  | d :: r => uptoBulk d + uptoBulkAll r
def uptoBulkEntries {H : Type} : List (Lit × DataW H) → Nat
  | [] => 0
  | x :: r => uptoBulkEntry x + uptoBulkEntries r
def uptoBulkEntry {H : Type} : Lit × DataW H → Nat
  | (.string bytes, d) => bytes.length + uptoBulk d + 1
  | (_, d) => uptoBulk d + 1
 end
def uptoSmall : (H : Type) → List (DataW H) → Bool := fun _ ds => decide (uptoBulkAll ds ≤ 1048576)
def OpenSpec.upto (s : _root_.Go.ChangeSpec) : _root_.Go.OpenSpec := { _root_.Go.OpenSpec.ofChange s with cond := some uptoSmall }

/-- 'dipworkslaw12.BoatReads', WHERE WHAT IT READS IS OF BULK AT MOST 1048576: true; the input reads as it did. -/
def boatReadsUptoRow : OpenClaim := { program := "ytafcdpmcmmfbhaadoor", sum := "f36c0d996ea84836402f43e3a5b075a9dfaedf9eaefe424d91be936f1533fa9f", func := "dipworks/dipworkslaw12.BoatReads", spec := "boatReads", unfollowed := true, recurses := true, named := ["math/bits.deBruijn64tab"], plainKeys := false, apart := false, laid := [("math/bits.deBruijn64tab", laid_math_bits_deBruijn64tab)], narrowed := true }
def BoatReadsUptoSaid : Prop := boatReadsUptoRow.holds Tryd.pinned (OpenSpec.upto boatReadsSpec)

/-- 'dipworkslaw12.BoatLooks', WHERE WHAT IT READS IS OF BULK AT MOST 1048576: true; the input reads as it did. -/
def boatLooksUptoRow : OpenClaim := { program := "ytafcdpmcmmfbhaadoor", sum := "f36c0d996ea84836402f43e3a5b075a9dfaedf9eaefe424d91be936f1533fa9f", func := "dipworks/dipworkslaw12.BoatLooks", spec := "boatLooks", unfollowed := true, recurses := true, named := ["math/bits.deBruijn64tab"], plainKeys := false, apart := false, laid := [("math/bits.deBruijn64tab", laid_math_bits_deBruijn64tab)], narrowed := true }
def BoatLooksUptoSaid : Prop := boatLooksUptoRow.holds Tryd.pinned (OpenSpec.upto boatLooksSpec)

/-- 'dipworkslaw12.BoatProves', WHERE WHAT IT READS IS OF BULK AT MOST 1048576: true; the input reads as it did. -/
def boatProvesUptoRow : OpenClaim := { program := "ytafcdpmcmmfbhaadoor", sum := "f36c0d996ea84836402f43e3a5b075a9dfaedf9eaefe424d91be936f1533fa9f", func := "dipworks/dipworkslaw12.BoatProves", spec := "boatProves", unfollowed := true, recurses := true, named := ["math/bits.deBruijn64tab"], plainKeys := false, apart := false, laid := [("math/bits.deBruijn64tab", laid_math_bits_deBruijn64tab)], narrowed := true }
def BoatProvesUptoSaid : Prop := boatProvesUptoRow.holds Tryd.pinned (OpenSpec.upto boatProvesSpec)

/-- 'dipworkslaw12.BoatTrue', WHERE WHAT IT READS IS OF BULK AT MOST 1048576: true; the input reads as it did. -/
def boatTrueUptoRow : OpenClaim := { program := "ytafcdpmcmmfbhaadoor", sum := "f36c0d996ea84836402f43e3a5b075a9dfaedf9eaefe424d91be936f1533fa9f", func := "dipworks/dipworkslaw12.BoatTrue", spec := "boatTrue", unfollowed := true, recurses := true, named := ["math/bits.deBruijn64tab"], plainKeys := false, apart := false, laid := [("math/bits.deBruijn64tab", laid_math_bits_deBruijn64tab)], narrowed := true }
def BoatTrueUptoSaid : Prop := boatTrueUptoRow.holds Tryd.pinned (OpenSpec.upto boatTrueSpec)

/-- 'dipworkslaw12.BoatSteps', WHERE WHAT IT READS IS OF BULK AT MOST 1048576: true; the input reads as it did. -/
def boatStepsUptoRow : OpenClaim := { program := "ytafcdpmcmmfbhaadoor", sum := "f36c0d996ea84836402f43e3a5b075a9dfaedf9eaefe424d91be936f1533fa9f", func := "dipworks/dipworkslaw12.BoatSteps", spec := "boatSteps", unfollowed := true, recurses := true, named := ["math/bits.deBruijn64tab"], plainKeys := false, apart := false, laid := [("math/bits.deBruijn64tab", laid_math_bits_deBruijn64tab)], narrowed := true }
def BoatStepsUptoSaid : Prop := boatStepsUptoRow.holds Tryd.pinned (OpenSpec.upto boatStepsSpec)

/-- 'dipworkslaw12.BoatNear', WHERE WHAT IT READS IS OF BULK AT MOST 1048576: true; the input reads as it did. -/
def boatNearUptoRow : OpenClaim := { program := "ytafcdpmcmmfbhaadoor", sum := "f36c0d996ea84836402f43e3a5b075a9dfaedf9eaefe424d91be936f1533fa9f", func := "dipworks/dipworkslaw12.BoatNear", spec := "boatNear", unfollowed := true, recurses := true, named := ["math/bits.deBruijn64tab"], plainKeys := false, apart := false, laid := [("math/bits.deBruijn64tab", laid_math_bits_deBruijn64tab)], narrowed := true }
def BoatNearUptoSaid : Prop := boatNearUptoRow.holds Tryd.pinned (OpenSpec.upto boatNearSpec)

/-- 'dipworkslaw12.BoatMet', WHERE WHAT IT READS IS OF BULK AT MOST 1048576: true; the input reads as it did. -/
def boatMetUptoRow : OpenClaim := { program := "ytafcdpmcmmfbhaadoor", sum := "f36c0d996ea84836402f43e3a5b075a9dfaedf9eaefe424d91be936f1533fa9f", func := "dipworks/dipworkslaw12.BoatMet", spec := "boatMet", unfollowed := true, recurses := true, named := ["math/bits.deBruijn64tab"], plainKeys := false, apart := false, laid := [("math/bits.deBruijn64tab", laid_math_bits_deBruijn64tab)], narrowed := true }
def BoatMetUptoSaid : Prop := boatMetUptoRow.holds Tryd.pinned (OpenSpec.upto boatMetSpec)

/-- 'dipworkslaw12.BoatSpeed', WHERE WHAT IT READS IS OF BULK AT MOST 1048576: true; the input reads as it did. -/
def boatSpeedUptoRow : OpenClaim := { program := "ytafcdpmcmmfbhaadoor", sum := "f36c0d996ea84836402f43e3a5b075a9dfaedf9eaefe424d91be936f1533fa9f", func := "dipworks/dipworkslaw12.BoatSpeed", spec := "boatSpeed", unfollowed := true, recurses := true, named := ["math/bits.deBruijn64tab"], plainKeys := false, apart := false, laid := [("math/bits.deBruijn64tab", laid_math_bits_deBruijn64tab)], narrowed := true }
def BoatSpeedUptoSaid : Prop := boatSpeedUptoRow.holds Tryd.pinned (OpenSpec.upto boatSpeedSpec)

/-- 'dipworkslaw12.BoatWrong', WHERE WHAT IT READS IS OF BULK AT MOST 1048576: true; the input reads as it did. -/
def boatWrongUptoRow : OpenClaim := { program := "ytafcdpmcmmfbhaadoor", sum := "f36c0d996ea84836402f43e3a5b075a9dfaedf9eaefe424d91be936f1533fa9f", func := "dipworks/dipworkslaw12.BoatWrong", spec := "boatWrong", unfollowed := true, recurses := true, named := ["math/bits.deBruijn64tab"], plainKeys := false, apart := false, laid := [("math/bits.deBruijn64tab", laid_math_bits_deBruijn64tab)], narrowed := true }
def BoatWrongUptoSaid : Prop := boatWrongUptoRow.holds Tryd.pinned (OpenSpec.upto boatWrongSpec)

/-- 'dipworkslaw12.BoatMore', WHERE WHAT IT READS IS OF BULK AT MOST 1048576: true; the input reads as it did. -/
def boatMoreUptoRow : OpenClaim := { program := "ytafcdpmcmmfbhaadoor", sum := "f36c0d996ea84836402f43e3a5b075a9dfaedf9eaefe424d91be936f1533fa9f", func := "dipworks/dipworkslaw12.BoatMore", spec := "boatMore", unfollowed := true, recurses := true, named := ["math/bits.deBruijn64tab"], plainKeys := false, apart := false, laid := [("math/bits.deBruijn64tab", laid_math_bits_deBruijn64tab)], narrowed := true }
def BoatMoreUptoSaid : Prop := boatMoreUptoRow.holds Tryd.pinned (OpenSpec.upto boatMoreSpec)

/-- 'dipworkslaw12.BoatTurned', WHERE WHAT IT READS IS OF BULK AT MOST 1048576: true; the input reads as it did. -/
def boatTurnedUptoRow : OpenClaim := { program := "ytafcdpmcmmfbhaadoor", sum := "f36c0d996ea84836402f43e3a5b075a9dfaedf9eaefe424d91be936f1533fa9f", func := "dipworks/dipworkslaw12.BoatTurned", spec := "boatTurned", unfollowed := true, recurses := true, named := ["math/bits.deBruijn64tab"], plainKeys := false, apart := false, laid := [("math/bits.deBruijn64tab", laid_math_bits_deBruijn64tab)], narrowed := true }
def BoatTurnedUptoSaid : Prop := boatTurnedUptoRow.holds Tryd.pinned (OpenSpec.upto boatTurnedSpec)

end Rows
end Go.Proofs.YtafcdpmcmmfbhaaDoor
