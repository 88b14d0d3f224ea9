/- Proved here: the statement TowelEndsSaid, of the given program. No conditions. -/
import Derived.Test.YticdacdflemoiaaLC
import Derived.Test.YticdacdflemoiaaLW

set_option linter.unusedSimpArgs false
set_option linter.unusedVariables false

/- TowelEnds: the statement. -/
namespace Go.Proofs.Yticdacdflemoiaa
open Go Go.Ab Go.ChangeShapes Go.WideShapes Go.ChangeAt Go.RowKit

theorem u8_nat {n : Int} (h : (Lit.int .u8 n).wf = true) : ∃ w : Nat, n = w ∧ w < 256 := by
  have h1 : 0 ≤ n ∧ n ≤ 255 := by simpa [Lit.wf, IntKind.min, IntKind.max, IntKind.signed, IntKind.bits] using h
  exact ⟨n.toNat, by omega, by omega⟩

set_option maxRecDepth 100000 in
theorem lifted (os : Os) (started : os.Started) (H : Type) (enc : TypeId × Value → H) :
    ReturnsInHanded {} Try.checked os 7 .any (Rows.towelEndsSpec.pre6 enc Try.prog Try.f7 Rows.towelEndsRow.domain false) (Rows.towelEndsSpec.post enc Try.prog Try.f7 false true false false) := by
  refine returnsInHanded_of_change (C := Try.checked) own' started (by kernel_rfl) Try.func7
    (ChangeSpec.witness6 (enc := enc) (C := Try.checked) false ⟨#[], #[.agg #[.slice none 0 0, .slice none 0 0, .slice none 0 0], .int .u8 0], []⟩ 8 (by kernel_rfl) (by kernel_rfl) (by kernel_rfl) (by kernel_rfl)) ?_
  intro W base args ds gs before hval0 hW _ _
  have hval : ∀ (j : Nat) t v, Try.f7.params[j]? = some t → args[j]? = some v → Value.okWide Try.prog W .any base t v := hval0
  have hW' := hW
  obtain ⟨p, q, hA0, hV, rfl, _, _⟩ := hW
  have hA : DataW.TrodAll enc Try.prog W 0 (fun _ => true) true Try.f7.params.toList args.toList ds p := hA0
  rw [Try.params7] at hA hval
  obtain ⟨v0, vs0, d0, ds0, p0, q0, hargs, rfl, rfl, h0, r0⟩ := trodAll_cons hA
  obtain ⟨v1, vs1, d1, ds1, p1, q1, rfl, rfl, rfl, h1, r1⟩ := trodAll_cons r0
  obtain ⟨rfl, rfl, rfl⟩ := trodAll_nil r1
  obtain rfl : args = #[v0, v1] := by cases args; simp_all
  obtain ⟨rfl, rfl⟩ := trodVars_none hV
  obtain ⟨t, hF, rT⟩ := open_towels (hval 0 25 v0 rfl rfl) h0
  obtain ⟨i1, rfl, rfl, rfl, wi1⟩ := open_int Try.underlying5 (hval 1 5 v1 rfl rfl) h1
  obtain ⟨w1, rfl, hw1⟩ := u8_nat wi1
  refine law_calls (tb := 4) (argsT := [.agg (tw3 t), .lit (.int .u8 w1)]) laidOut' mapsRowed' fullRows (by rw [Try.params7]; decide +kernel) rfl rfl (by kernel_rfl) Try.underlying4 hW' ?_ (TowelEnds_ok t w1 hw1)
  unfold RepTs
  refine ⟨_, [.int .u8 w1], rfl, rT, ?_⟩
  unfold RepTs
  refine ⟨_, [], rfl, by unfold RepT; rfl, ?_⟩
  unfold RepTs
  rfl

theorem TowelEnds_said : Rows.TowelEndsSaid :=
  OpenClaim.holds_of_wide 7 Try.f7 rfl rfl rfl rfl rfl rfl rfl ⟨rfl, rfl, rfl, rfl, rfl⟩ rfl rfl rfl rfl rfl (by kernel_rfl) Try.func7 (by kernel_rfl)
    (of_decide_eq_true (by kernel_rfl)) (by unfold Func.isWrapper; first | (rw [if_pos (by decide +kernel)]; kernel_rfl) | (rw [if_neg (by decide +kernel)]; exact ⟨rfl, rfl⟩))
    (fun os started H enc _ => lifted os started H enc)
end Go.Proofs.Yticdacdflemoiaa
