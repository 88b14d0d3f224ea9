/- Proved here: the statement BoatLooksCardSaid, of the given program. No conditions. -/
import Derived.Test.YtafcdpmcmmfbhaaDoorBH
import Derived.Test.YtafcdpmcmmfbhaaDoorC6
import Derived.Test.YtafcdpmcmmfbhaaDoorTie
import Derived.Test.YtafcdpmcmmfbhaaDoorCards

set_option linter.unusedSimpArgs false
set_option linter.unusedVariables false

/- BoatLooks: the statement. -/
namespace Go.Proofs.YtafcdpmcmmfbhaaDoor
open Go Go.Ab Go.ChangeShapes Go.WideShapes Go.ChangeAt Go.RowKit

set_option maxRecDepth 100000 in
theorem boatLooks_lifted (os : Os) (started : os.Started) (H : Type) (enc : TypeId × Value → H) :
    ReturnsInHanded {} Tryd.checked os 4 .any (fun w args => (Rows.boatLooksSpec.pre enc Tryd.prog Tryd.f4 [] false w args ∧ laidMetH Tryd.prog laid2 w) ∧ sizedMet enc Tryd.prog Tryd.f4 (OpenSpec.ofChange Rows.boatLooksSpec) false w args)
      (Rows.boatLooksSpec.post enc Tryd.prog Tryd.f4 false true false false) := by
  refine returnsInHanded_of_change_and (C := Tryd.checked) (X := fun w _ => laidMetH Tryd.prog laid2 w) (fun _ _ _ hh h => h.of_heap hh) own' started (by kernel_rfl) Tryd.func4
    (ChangeSpec.witness_shaped (enc := enc) (C := Tryd.checked) (os := os) (X := fun w _ => laidMetH Tryd.prog laid2 w) false (World.doorLaid Tryd.prog 400 os) #[.agg #[.int .i64 0, .int .i64 0, .int .i64 0, .int .i64 0, .slice none 0 0], .int .i64 0, .int .i64 0, .int .i64 0, .int .i64 0] 8 rfl (World.shaped_of_RefB (by kernel_rfl) (by kernel_rfl)) (by kernel_rfl) (by kernel_rfl) (by kernel_rfl) (door_met os _)) ?_
  intro W base args ds gs before hval0 hW _ _ hL _
  have hval : ∀ (j : Nat) t v, Tryd.f4.params[j]? = some t → args[j]? = some v → Value.okWide Tryd.prog W .any base t v := hval0
  have hW' := hW
  obtain ⟨p, q, hA0, hV, rfl, _, _⟩ := hW
  have hA : DataW.TrodAll enc Tryd.prog W 0 (fun _ => true) true Tryd.f4.params.toList args.toList ds p := hA0
  rw [Tryd.params4] at hA hval
  obtain ⟨v0, vs0, d0, ds0, p0, q0, hargs, rfl, rfl, h0, r0⟩ := trodAll_cons hA
  obtain ⟨v1, vs1, d1, ds1, p1, q1, rfl, rfl, rfl, h1, r1⟩ := trodAll_cons r0
  obtain ⟨v2, vs2, d2, ds2, p2, q2, rfl, rfl, rfl, h2, r2⟩ := trodAll_cons r1
  obtain ⟨v3, vs3, d3, ds3, p3, q3, rfl, rfl, rfl, h3, r3⟩ := trodAll_cons r2
  obtain ⟨v4, vs4, d4, ds4, p4, q4, rfl, rfl, rfl, h4, r4⟩ := trodAll_cons r3
  obtain ⟨rfl, rfl, rfl⟩ := trodAll_nil r4
  obtain rfl : args = #[v0, v1, v2, v3, v4] := by cases args; simp_all
  obtain ⟨rfl, rfl⟩ := trodVars_none hV
  obtain ⟨f, hF, rT⟩ := open_boat (hval 0 24 v0 rfl rfl) h0
  obtain ⟨i1, rfl, rfl, rfl, w1⟩ := open_int Tryd.underlying3 (hval 1 3 v1 rfl rfl) h1
  obtain ⟨i2, rfl, rfl, rfl, w2⟩ := open_int Tryd.underlying3 (hval 2 3 v2 rfl rfl) h2
  obtain ⟨i3, rfl, rfl, rfl, w3⟩ := open_int Tryd.underlying3 (hval 3 3 v3 rfl rfl) h3
  obtain ⟨i4, rfl, rfl, rfl, w4⟩ := open_int Tryd.underlying3 (hval 4 3 v4 rfl rfl) h4
  refine law_calls (tb := 4) (argsT := [.agg (bo5 f), .lit (.int .i64 i1), .lit (.int .i64 i2), .lit (.int .i64 i3), .lit (.int .i64 i4)]) laidOut' mapsRowed' fullRows (by rw [Tryd.params4]; decide +kernel) rfl rfl (by kernel_rfl) Tryd.underlying4 hW' ?_ (glob_ok hL) (BoatLooks_ok f hF.lens i1 i2 i3 i4)
  unfold RepTs
  refine ⟨v0, [.int .i64 i1, .int .i64 i2, .int .i64 i3, .int .i64 i4], rfl, rT, ?_⟩
  unfold RepTs
  refine ⟨_, _, rfl, by unfold RepT; rfl, ?_⟩
  unfold RepTs
  refine ⟨_, _, rfl, by unfold RepT; rfl, ?_⟩
  unfold RepTs
  refine ⟨_, _, rfl, by unfold RepT; rfl, ?_⟩
  unfold RepTs
  refine ⟨_, _, rfl, by unfold RepT; rfl, ?_⟩
  unfold RepTs
  rfl

theorem boatLooks_holds : Rows.BoatLooksSaid :=
  OpenClaim.holds_of_wide 4 Tryd.f4 rfl rfl rfl rfl rfl rfl rfl ⟨rfl, rfl, rfl, rfl, rfl⟩ rfl rfl rfl rfl rfl (by kernel_rfl) Tryd.func4 (by kernel_rfl)
    (of_decide_eq_true (by kernel_rfl)) (by unfold Func.isWrapper; first | (rw [if_pos (by decide +kernel)]; kernel_rfl) | (rw [if_neg (by decide +kernel)]; exact ⟨rfl, rfl⟩))
    (fun os started H enc _ => boatLooks_lifted os started H enc)

theorem BoatLooks_said : Rows.BoatLooksCardSaid :=
  Claim7.holds_tied_plain_at .later [] [.data] true (true, "9c843c092e058003e547667ef1766a526383fa8f7925694362302ae9ad6cb784") true
    boatLooks_holds (fun _ h => by cases h) (by kernel_rfl) (fun _ h => by cases h) boatLooks_row_tie rfl ⟨rfl, rfl⟩ (by kernel_rfl) rfl
    (fun f fn hf hfn => by
      obtain rfl : f = 4 := Option.some.inj ((show Tryd.prog.funcNamed "dipworks/dipworkslaw12.BoatLooks" = some 4 by kernel_rfl).symm.trans hf) |>.symm
      obtain rfl : fn = Tryd.f4 := (Option.some.inj (Tryd.func4.symm.trans hfn)).symm
      exact ⟨by kernel_rfl, fun j t ht => by
        rw [Tryd.params4] at ht
        have hm : t ∈ [24, 3, 3, 3, 3] := by simpa using Array.mem_of_getElem? ht
        have hall : ([24, 3, 3, 3, 3].all fun u => !Tryd.prog.wantsStandIn u) = true := by kernel_rfl
        exact (show Tryd.prog.wantsStandIn t = false by simpa using List.all_eq_true.1 hall t hm)⟩)
    (by kernel_rfl)
end Go.Proofs.YtafcdpmcmmfbhaaDoor
