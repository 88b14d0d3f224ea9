/- Proved here: the statement TowelTurnedSaid, of the given program. No conditions. -/
import Derived.Test.YticdacdflemoiaaLC
import Derived.Test.YticdacdflemoiaaLT

set_option linter.unusedSimpArgs false
set_option linter.unusedVariables false

/- TowelTurned: the statement. -/
namespace Go.Proofs.Yticdacdflemoiaa
open Go Go.Ab Go.ChangeShapes Go.WideShapes Go.ChangeAt Go.RowKit

set_option maxRecDepth 100000 in
theorem lifted (os : Os) (started : os.Started) (H : Type) (enc : TypeId × Value → H) :
    ReturnsInHanded {} Try.checked os 12 .any (Rows.towelTurnedSpec.pre6 enc Try.prog Try.f12 Rows.towelTurnedRow.domain false) (Rows.towelTurnedSpec.post enc Try.prog Try.f12 false true false false) := by
  refine returnsInHanded_of_change (C := Try.checked) own' started (by kernel_rfl) Try.func12
    (ChangeSpec.witness6 (enc := enc) (C := Try.checked) false ⟨#[], #[.agg #[.slice none 0 0, .slice none 0 0, .slice none 0 0]], []⟩ 8 (by kernel_rfl) (by kernel_rfl) (by kernel_rfl) (by kernel_rfl)) ?_
  intro W base args ds gs before hval0 hW _ _
  have hval : ∀ (j : Nat) t v, Try.f12.params[j]? = some t → args[j]? = some v → Value.okWide Try.prog W .any base t v := hval0
  have hW' := hW
  obtain ⟨p, q, hA0, hV, rfl, _, _⟩ := hW
  have hA : DataW.TrodAll enc Try.prog W 0 (fun _ => true) true Try.f12.params.toList args.toList ds p := hA0
  rw [Try.params12] at hA hval
  obtain ⟨v0, vs0, d0, ds0, p0, q0, hargs, rfl, rfl, h0, r0⟩ := trodAll_cons hA
  obtain ⟨rfl, rfl, rfl⟩ := trodAll_nil r0
  obtain rfl : args = #[v0] := by cases args; simp_all
  obtain ⟨rfl, rfl⟩ := trodVars_none hV
  obtain ⟨t, hF, rT⟩ := open_towels (hval 0 25 v0 rfl rfl) h0
  refine law_calls (tb := 4) (argsT := [.agg (tw3 t)]) laidOut' mapsRowed' fullRows (by rw [Try.params12]; decide +kernel) rfl rfl (by kernel_rfl) Try.underlying4 hW' ?_ (TowelTurned_ok t)
  unfold RepTs
  refine ⟨_, [], rfl, rT, ?_⟩
  unfold RepTs
  rfl

theorem TowelTurned_said : Rows.TowelTurnedSaid :=
  OpenClaim.holds_of_wide 12 Try.f12 rfl rfl rfl rfl rfl rfl rfl ⟨rfl, rfl, rfl, rfl, rfl⟩ rfl rfl rfl rfl rfl (by kernel_rfl) Try.func12 (by kernel_rfl)
    (of_decide_eq_true (by kernel_rfl)) (by unfold Func.isWrapper; first | (rw [if_pos (by decide +kernel)]; kernel_rfl) | (rw [if_neg (by decide +kernel)]; exact ⟨rfl, rfl⟩))
    (fun os started H enc _ => lifted os started H enc)
end Go.Proofs.Yticdacdflemoiaa
