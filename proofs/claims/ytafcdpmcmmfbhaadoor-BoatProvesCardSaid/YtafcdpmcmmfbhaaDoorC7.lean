/- Proved here: laws that the statements need (BoC3w). No conditions but those that each law states. -/
import Derived.Test.YtafcdpmcmmfbhaaDoorFL
import Derived.Test.YtafcdpmcmmfbhaaDoorProg

set_option linter.unusedSimpArgs false
set_option linter.unusedVariables false

/- Compiled code of functions, printed by program; each is checked to be the program's. No conditions. -/
namespace Go.Proofs.YtafcdpmcmmfbhaaDoor
open Go Go.Ab
/-- dipworks/dipworksref12.Within -/
def c40 : AC :=
 .seq (.reg [⟨(some 3), none, .box (.tmp 0)⟩,
 ⟨(some 4), none, .box (.tmp 1)⟩,
 ⟨(some 6), none, .mov (.lit (.bool false))⟩])
 (.seq (.draw (.step ⟨(some 7), none, .mov (.tmp 2)⟩ (
 .step ⟨(some 8), none, .faddr 0 (.tmp 3)⟩ (
 .step ⟨(some 9), none, .load false 1 (.tmp 8)⟩ (
 .step ⟨(some 10), none, .bin .rem (.tmp 7) (.tmp 9)⟩ (
 .step ⟨(some 11), none, .faddr 1 (.tmp 4)⟩ (
 .step ⟨(some 12), none, .faddr 0 (.tmp 11)⟩ (
 .step ⟨(some 13), none, .load false 1 (.tmp 12)⟩ (
 .step ⟨(some 14), none, .faddr 1 (.tmp 4)⟩ (
 .step ⟨(some 15), none, .faddr 1 (.tmp 14)⟩ (
 .step ⟨(some 16), none, .load false 1 (.tmp 15)⟩ (
 .ev ⟨(some 17), none, .call (.fn 59) [(.tmp 10), (.tmp 13), (.tmp 16)]⟩ [⟨(some 15), none, .faddr 1 (.tmp 14)⟩, ⟨(some 14), none, .faddr 1 (.tmp 4)⟩, ⟨(some 12), none, .faddr 0 (.tmp 11)⟩, ⟨(some 11), none, .faddr 1 (.tmp 4)⟩, ⟨(some 9), none, .load false 1 (.tmp 8)⟩, ⟨(some 8), none, .faddr 0 (.tmp 3)⟩] (
 .step ⟨(some 18), none, .mov (.tmp 17)⟩ (
 .step ⟨(some 19), (some (18, true)), .mov (.tmp 2)⟩ (
 .step ⟨(some 20), (some (18, true)), .faddr 0 (.tmp 3)⟩ (
 .step ⟨(some 21), (some (18, true)), .load false 1 (.tmp 20)⟩ (
 .step ⟨(some 22), (some (18, true)), .bin .quo (.tmp 19) (.tmp 21)⟩ (
 .step ⟨(some 23), (some (18, true)), .faddr 3 (.tmp 4)⟩ (
 .step ⟨(some 24), (some (18, true)), .faddr 0 (.tmp 23)⟩ (
 .step ⟨(some 25), (some (18, true)), .load false 1 (.tmp 24)⟩ (
 .step ⟨(some 26), (some (18, true)), .faddr 3 (.tmp 4)⟩ (
 .step ⟨(some 27), (some (18, true)), .faddr 1 (.tmp 26)⟩ (
 .step ⟨(some 28), (some (18, true)), .load false 1 (.tmp 27)⟩ (
 .ev ⟨(some 29), (some (18, true)), .call (.fn 59) [(.tmp 22), (.tmp 25), (.tmp 28)]⟩ [⟨(some 27), (some (18, true)), .faddr 1 (.tmp 26)⟩, ⟨(some 26), (some (18, true)), .faddr 3 (.tmp 4)⟩, ⟨(some 24), (some (18, true)), .faddr 0 (.tmp 23)⟩, ⟨(some 23), (some (18, true)), .faddr 3 (.tmp 4)⟩, ⟨(some 21), (some (18, true)), .load false 1 (.tmp 20)⟩, ⟨(some 20), (some (18, true)), .faddr 0 (.tmp 3)⟩, ⟨(some 16), none, .load false 1 (.tmp 15)⟩, ⟨(some 15), none, .faddr 1 (.tmp 14)⟩, ⟨(some 14), none, .faddr 1 (.tmp 4)⟩, ⟨(some 13), none, .load false 1 (.tmp 12)⟩, ⟨(some 12), none, .faddr 0 (.tmp 11)⟩, ⟨(some 11), none, .faddr 1 (.tmp 4)⟩, ⟨(some 9), none, .load false 1 (.tmp 8)⟩, ⟨(some 8), none, .faddr 0 (.tmp 3)⟩] (
 .step ⟨(some 30), none, .pick (.tmp 18) (.tmp 29) (.lit (.bool false))⟩ (
 .step ⟨(some 6), none, .mov (.tmp 30)⟩ (
 .done)))
 (.stop)))))))))))))
 (.stop)))))))))))))
 (.ret))
theorem k40 : FnC Tryd.prog 40 31 [] [] [.tmp 6] c40 3 := ⟨Tryd.f40, _, Tryd.func40, rfl, by decide, rfl, by decide, by kernel_rfl, by kernel_rfl⟩
end Go.Proofs.YtafcdpmcmmfbhaaDoor
