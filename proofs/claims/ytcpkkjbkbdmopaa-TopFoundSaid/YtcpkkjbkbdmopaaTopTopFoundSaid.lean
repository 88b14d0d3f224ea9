/- Proved here: the statement TopFoundSaid, of the given program. No conditions. -/
import Derived.Test.YtcpkkjbkbdmopaaDG
import Derived.Test.YtcpkkjbkbdmopaaDY

set_option linter.unusedSimpArgs false
set_option linter.unusedVariables false

/- TopFound: the statement. -/
namespace Go.Proofs.Ytcpkkjbkbdmopaa
open Go Go.Ab Go.ChangeShapes Go.WideShapes Go.ChangeAt Go.RowKit

set_option maxRecDepth 100000 in
theorem lifted (os : Os) (started : os.Started) (H : Type) (enc : TypeId × Value → H) :
    ReturnsInHanded {} Try.checked os 3 .any (Rows.topFoundSpec.pre6 enc Try.prog Try.f3 Rows.topFoundRow.domain false) (Rows.topFoundSpec.post enc Try.prog Try.f3 false true false false) := by
  refine returnsInHanded_of_change (C := Try.checked) own' started (by kernel_rfl) Try.func3
    (ChangeSpec.witness6 (enc := enc) (C := Try.checked) false ⟨#[], #[.agg #[.slice none 0 0, .slice none 0 0, .slice none 0 0, .int .i64 0, .int .i64 0, .int .i64 0, .int .i64 0, .int .i64 0, .slice none 0 0, .int .i64 0], .int .u8 0, .int .u8 0, .int .u8 0], []⟩ 8 (by kernel_rfl) (by kernel_rfl) (by kernel_rfl) (by kernel_rfl)) ?_
  intro W base args ds gs before hval0 hW _ _
  have hval : ∀ (j : Nat) t v, Try.f3.params[j]? = some t → args[j]? = some v → Value.okWide Try.prog W .any base t v := hval0
  have hW' := hW
  obtain ⟨p, q, hA0, hV, rfl, _, _⟩ := hW
  have hA : DataW.TrodAll enc Try.prog W 0 (fun _ => true) true Try.f3.params.toList args.toList ds p := hA0
  rw [Try.params3] at hA hval
  obtain ⟨v0, vs0, d0, ds0, p0, q0, hargs, rfl, rfl, h0, r0⟩ := trodAll_cons hA
  obtain ⟨v1, vs1, d1, ds1, p1, q1, rfl, rfl, rfl, h1, r1⟩ := trodAll_cons r0
  obtain ⟨v2, vs2, d2, ds2, p2, q2, rfl, rfl, rfl, h2, r2⟩ := trodAll_cons r1
  obtain ⟨v3, vs3, d3, ds3, p3, q3, rfl, rfl, rfl, h3, r3⟩ := trodAll_cons r2
  obtain ⟨rfl, rfl, rfl⟩ := trodAll_nil r3
  obtain rfl : args = #[v0, v1, v2, v3] := by cases args; simp_all
  obtain ⟨rfl, rfl⟩ := trodVars_none hV
  obtain ⟨t, hF, rT⟩ := open_rail (hval 0 28 v0 rfl rfl) h0
  obtain ⟨i1, rfl, rfl, rfl, wi1⟩ := open_int Try.underlying5 (hval 1 5 v1 rfl rfl) h1
  obtain ⟨w1, rfl, hw1⟩ := u8_nat wi1
  obtain ⟨i2, rfl, rfl, rfl, wi2⟩ := open_int Try.underlying5 (hval 2 5 v2 rfl rfl) h2
  obtain ⟨w2, rfl, hw2⟩ := u8_nat wi2
  obtain ⟨i3, rfl, rfl, rfl, wi3⟩ := open_int Try.underlying5 (hval 3 5 v3 rfl rfl) h3
  obtain ⟨w3, rfl, hw3⟩ := u8_nat wi3
  refine law_calls (tb := 4) (argsT := [tRa t, .lit (.int .u8 w1), .lit (.int .u8 w2), .lit (.int .u8 w3)]) laidOut' mapsRowed' fullRows (by rw [Try.params3]; decide +kernel) rfl rfl (by kernel_rfl) Try.underlying4 hW' ?_ (GlobOK.none (by kernel_rfl)) (TopFound_ok t hF.lens w1 hw1 w2 hw2 w3 hw3)
  unfold RepTs
  refine ⟨_, [.int .u8 w1, .int .u8 w2, .int .u8 w3], rfl, rT, ?_⟩
  unfold RepTs
  refine ⟨_, [.int .u8 w2, .int .u8 w3], rfl, by unfold RepT; rfl, ?_⟩
  unfold RepTs
  refine ⟨_, [.int .u8 w3], rfl, by unfold RepT; rfl, ?_⟩
  unfold RepTs
  refine ⟨_, [], rfl, by unfold RepT; rfl, ?_⟩
  unfold RepTs
  rfl

theorem TopFound_said : Rows.TopFoundSaid :=
  OpenClaim.holds_of_wide 3 Try.f3 rfl rfl rfl rfl rfl rfl rfl ⟨rfl, rfl, rfl, rfl, rfl⟩ rfl rfl rfl rfl rfl (by kernel_rfl) Try.func3 (by kernel_rfl)
    (of_decide_eq_true (by kernel_rfl)) (by unfold Func.isWrapper; first | (rw [if_pos (by decide +kernel)]; kernel_rfl) | (rw [if_neg (by decide +kernel)]; exact ⟨rfl, rfl⟩))
    (fun os started H enc _ => lifted os started H enc)
end Go.Proofs.Ytcpkkjbkbdmopaa
