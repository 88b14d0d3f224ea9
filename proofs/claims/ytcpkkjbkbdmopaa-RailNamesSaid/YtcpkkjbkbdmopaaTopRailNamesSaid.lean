/- Proved here: the statement RailNamesSaid, of the given program. No conditions. -/
import Derived.Test.YtcpkkjbkbdmopaaDG
import Derived.Test.YtcpkkjbkbdmopaaDH

set_option linter.unusedSimpArgs false
set_option linter.unusedVariables false

/- RailNames: the statement. -/
namespace Go.Proofs.Ytcpkkjbkbdmopaa
open Go Go.Ab Go.ChangeShapes Go.WideShapes Go.ChangeAt Go.RowKit

set_option maxRecDepth 100000 in
theorem lifted (os : Os) (started : os.Started) (H : Type) (enc : TypeId × Value → H) :
    ReturnsInHanded {} Try.checked os 5 .any (Rows.railNamesSpec.pre6 enc Try.prog Try.f5 Rows.railNamesRow.domain false) (Rows.railNamesSpec.post enc Try.prog Try.f5 false true false false) := by
  refine returnsInHanded_of_change (C := Try.checked) own' started (by kernel_rfl) Try.func5
    (ChangeSpec.witness6 (enc := enc) (C := Try.checked) false ⟨#[], #[], []⟩ 8 (by kernel_rfl) (by kernel_rfl) (by kernel_rfl) (by kernel_rfl)) ?_
  intro W base args ds gs before hval0 hW _ _
  have hW' := hW
  obtain ⟨p, q, hA0, hV, rfl, _, _⟩ := hW
  have hA : DataW.TrodAll enc Try.prog W 0 (fun _ => true) true Try.f5.params.toList args.toList ds p := hA0
  rw [Try.params5] at hA
  obtain ⟨hargs, rfl, rfl⟩ := trodAll_nil hA
  obtain rfl : args = #[] := by cases args; simp_all
  obtain ⟨rfl, rfl⟩ := trodVars_none hV
  refine law_calls (tb := 4) (argsT := []) laidOut' mapsRowed' fullRows (by rw [Try.params5]; decide +kernel) rfl rfl (by kernel_rfl) Try.underlying4 hW' ?_ (GlobOK.none (by kernel_rfl)) RailNames_ok
  unfold RepTs
  rfl

theorem RailNames_said : Rows.RailNamesSaid :=
  OpenClaim.holds_of_wide 5 Try.f5 rfl rfl rfl rfl rfl rfl rfl ⟨rfl, rfl, rfl, rfl, rfl⟩ rfl rfl rfl rfl rfl (by kernel_rfl) Try.func5 (by kernel_rfl)
    (of_decide_eq_true (by kernel_rfl)) (by unfold Func.isWrapper; first | (rw [if_pos (by decide +kernel)]; kernel_rfl) | (rw [if_neg (by decide +kernel)]; exact ⟨rfl, rfl⟩))
    (fun os started H enc _ => lifted os started H enc)
end Go.Proofs.Ytcpkkjbkbdmopaa
