/- Proved here: the statement WatchWaysCardSaid, of the given program. No conditions. -/
import Derived.Test.YtnmmhkkmejbckaaGreatDoorYF
import Derived.Test.YtnmmhkkmejbckaaGreatDoorYS
import Derived.Test.YtnmmhkkmejbckaaGreatDoorTie
import Derived.Test.YtnmmhkkmejbckaaGreatDoorCards

set_option linter.unusedSimpArgs false
set_option linter.unusedVariables false

/- WatchWays: the statement. -/
namespace Go.Proofs.YtnmmhkkmejbckaaGreatDoor
open Go Go.Ab Go.ChangeShapes Go.WideShapes Go.ChangeAt Go.RowKit

set_option maxRecDepth 100000 in
theorem watchWays_lifted (os : Os) (started : os.Started) (H : Type) (enc : TypeId × Value → H) :
    ReturnsInHanded {} Tryz.checked os 4 .any (fun w args => (Rows.watchWaysSpec.pre enc Tryz.prog Tryz.f4 [] false w args ∧ laidMetH Tryz.prog laid2 w) ∧ sizedMet enc Tryz.prog Tryz.f4 (OpenSpec.ofChange Rows.watchWaysSpec) false w args)
      (Rows.watchWaysSpec.post enc Tryz.prog Tryz.f4 false true false false) := by
  refine returnsInHanded_of_change_and (C := Tryz.checked) (X := fun w _ => laidMetH Tryz.prog laid2 w) (fun _ _ _ hh h => h.of_heap hh) own' started (by kernel_rfl) Tryz.func4
    (ChangeSpec.witness_shaped (enc := enc) (C := Tryz.checked) (os := os) (X := fun w _ => laidMetH Tryz.prog laid2 w) false (World.doorLaid Tryz.prog 400 os) #[.agg #[.slice none 0 0, .slice none 0 0], .int .i64 0, .int .i64 0] 8 rfl (World.shaped_of_RefB (by kernel_rfl) (by kernel_rfl)) (by kernel_rfl) (by kernel_rfl) (by kernel_rfl) (door_met os _)) ?_
  intro W base args ds gs before hval0 hW _ _ hL _
  have hval : ∀ (j : Nat) t v, Tryz.f4.params[j]? = some t → args[j]? = some v → Value.okWide Tryz.prog W .any base t v := hval0
  have hW' := hW
  obtain ⟨p, q, hA0, hV, rfl, _, _⟩ := hW
  have hA : DataW.TrodAll enc Tryz.prog W 0 (fun _ => true) true Tryz.f4.params.toList args.toList ds p := hA0
  rw [Tryz.params4] at hA hval
  obtain ⟨v0, vs0, d0, ds0, p0, q0, hargs, rfl, rfl, h0, r0⟩ := trodAll_cons hA
  obtain ⟨v1, vs1, d1, ds1, p1, q1, rfl, rfl, rfl, h1, r1⟩ := trodAll_cons r0
  obtain ⟨v2, vs2, d2, ds2, p2, q2, rfl, rfl, rfl, h2, r2⟩ := trodAll_cons r1
  obtain ⟨rfl, rfl, rfl⟩ := trodAll_nil r2
  obtain rfl : args = #[v0, v1, v2] := by cases args; simp_all
  obtain ⟨rfl, rfl⟩ := trodVars_none hV
  obtain ⟨w0, hF0, rT0⟩ := open_watch (hval 0 25 v0 rfl rfl) h0
  obtain ⟨i1, rfl, rfl, rfl, w1⟩ := open_int Tryz.underlying3 (hval 1 3 v1 rfl rfl) h1
  obtain ⟨i2, rfl, rfl, rfl, w2⟩ := open_int Tryz.underlying3 (hval 2 3 v2 rfl rfl) h2
  refine law_calls (tb := 4) (argsT := [tWa w0, .lit (.int .i64 i1), .lit (.int .i64 i2)]) laidOut' mapsRowed' fullRows (by rw [Tryz.params4]; decide +kernel) rfl rfl (by kernel_rfl) Tryz.underlying4 hW' ?_ (glob_ok hL) (WatchWays_ok w0 hF0.lens i1 i2)
  unfold RepTs
  refine ⟨v0, [.int .i64 i1, .int .i64 i2], rfl, rT0, ?_⟩
  unfold RepTs
  refine ⟨.int .i64 i1, [.int .i64 i2], rfl, by unfold RepT; rfl, ?_⟩
  unfold RepTs
  refine ⟨.int .i64 i2, [], rfl, by unfold RepT; rfl, ?_⟩
  unfold RepTs
  rfl

theorem watchWays_holds : Rows.WatchWaysSaid :=
  OpenClaim.holds_of_wide 4 Tryz.f4 rfl rfl rfl rfl rfl rfl rfl ⟨rfl, rfl, rfl, rfl, rfl⟩ rfl rfl rfl rfl rfl (by kernel_rfl) Tryz.func4 (by kernel_rfl)
    (of_decide_eq_true (by kernel_rfl)) (by unfold Func.isWrapper; first | (rw [if_pos (by decide +kernel)]; kernel_rfl) | (rw [if_neg (by decide +kernel)]; exact ⟨rfl, rfl⟩))
    (fun os started H enc _ => watchWays_lifted os started H enc)

theorem WatchWays_said : Rows.WatchWaysCardSaid :=
  Claim7.holds_tied_plain_at .later [] [.data, .data] true (true, "f0c0b3a4ea5fff6e3cd008fa8594ddb4a527ab63b86db590aaa79044d8a0dcec") true
    watchWays_holds (fun _ h => by cases h) (by kernel_rfl) (fun _ h => by cases h) watchWays_row_tie rfl ⟨rfl, rfl⟩ (by kernel_rfl) rfl
    (fun f fn hf hfn => by
      obtain rfl : f = 4 := Option.some.inj ((show Tryz.prog.funcNamed "dipworks/dipworkslaw07.WatchWays" = some 4 by kernel_rfl).symm.trans hf) |>.symm
      obtain rfl : fn = Tryz.f4 := (Option.some.inj (Tryz.func4.symm.trans hfn)).symm
      exact ⟨by kernel_rfl, fun j t ht => by
        rw [Tryz.params4] at ht
        have hm : t ∈ [25, 3, 3] := by simpa using Array.mem_of_getElem? ht
        have hall : ([25, 3, 3].all fun u => !Tryz.prog.wantsStandIn u) = true := by kernel_rfl
        exact (show Tryz.prog.wantsStandIn t = false by simpa using List.all_eq_true.1 hall t hm)⟩)
    (by kernel_rfl)
end Go.Proofs.YtnmmhkkmejbckaaGreatDoor
