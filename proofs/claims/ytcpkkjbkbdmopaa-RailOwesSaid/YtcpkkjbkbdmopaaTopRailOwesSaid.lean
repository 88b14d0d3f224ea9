/- Proved here: the statement RailOwesSaid, of the given program. No conditions. -/
import Derived.Test.YtcpkkjbkbdmopaaDG
import Derived.Test.YtcpkkjbkbdmopaaDL

set_option linter.unusedSimpArgs false
set_option linter.unusedVariables false

/- RailOwes: the statement. -/
namespace Go.Proofs.Ytcpkkjbkbdmopaa
open Go Go.Ab Go.ChangeShapes Go.WideShapes Go.ChangeAt Go.RowKit

set_option maxRecDepth 100000 in
theorem lifted (os : Os) (started : os.Started) (H : Type) (enc : TypeId × Value → H) :
    ReturnsInHanded {} Try.checked os 11 .any (Rows.railOwesSpec.pre6 enc Try.prog Try.f11 Rows.railOwesRow.domain false) (Rows.railOwesSpec.post enc Try.prog Try.f11 false true false false) := by
  refine returnsInHanded_of_change (C := Try.checked) own' started (by kernel_rfl) Try.func11
    (ChangeSpec.witness6 (enc := enc) (C := Try.checked) false ⟨#[], #[.agg #[.slice none 0 0, .slice none 0 0, .slice none 0 0, .int .i64 0, .int .i64 0, .int .i64 0, .int .i64 0, .int .i64 0, .slice none 0 0, .int .i64 0]], []⟩ 8 (by kernel_rfl) (by kernel_rfl) (by kernel_rfl) (by kernel_rfl)) ?_
  intro W base args ds gs before hval0 hW _ _
  have hval : ∀ (j : Nat) t v, Try.f11.params[j]? = some t → args[j]? = some v → Value.okWide Try.prog W .any base t v := hval0
  have hW' := hW
  obtain ⟨p, q, hA0, hV, rfl, _, _⟩ := hW
  have hA : DataW.TrodAll enc Try.prog W 0 (fun _ => true) true Try.f11.params.toList args.toList ds p := hA0
  rw [Try.params11] at hA hval
  obtain ⟨v0, vs0, d0, ds0, p0, q0, hargs, rfl, rfl, h0, r0⟩ := trodAll_cons hA
  obtain ⟨rfl, rfl, rfl⟩ := trodAll_nil r0
  obtain rfl : args = #[v0] := by cases args; simp_all
  obtain ⟨rfl, rfl⟩ := trodVars_none hV
  obtain ⟨t, hF, rT⟩ := open_rail (hval 0 28 v0 rfl rfl) h0
  refine law_calls (tb := 4) (argsT := [tRa t]) laidOut' mapsRowed' fullRows (by rw [Try.params11]; decide +kernel) rfl rfl (by kernel_rfl) Try.underlying4 hW' ?_ (GlobOK.none (by kernel_rfl)) (RailOwes_ok t hF.lens)
  unfold RepTs
  refine ⟨_, [], rfl, rT, ?_⟩
  unfold RepTs
  rfl

theorem RailOwes_said : Rows.RailOwesSaid :=
  OpenClaim.holds_of_wide 11 Try.f11 rfl rfl rfl rfl rfl rfl rfl ⟨rfl, rfl, rfl, rfl, rfl⟩ rfl rfl rfl rfl rfl (by kernel_rfl) Try.func11 (by kernel_rfl)
    (of_decide_eq_true (by kernel_rfl)) (by unfold Func.isWrapper; first | (rw [if_pos (by decide +kernel)]; kernel_rfl) | (rw [if_neg (by decide +kernel)]; exact ⟨rfl, rfl⟩))
    (fun os started H enc _ => lifted os started H enc)
end Go.Proofs.Ytcpkkjbkbdmopaa
