/- Proved here: the statement WatchMoreCardSaid, of the given program. No conditions. -/
import Derived.Test.YtnmmhkkmejbckaaDoorEV
import Derived.Test.YtnmmhkkmejbckaaDoorET
import Derived.Test.YtnmmhkkmejbckaaDoorTie
import Derived.Test.YtnmmhkkmejbckaaDoorCards

set_option linter.unusedSimpArgs false
set_option linter.unusedVariables false

/- WatchMore: the statement. -/
namespace Go.Proofs.YtnmmhkkmejbckaaDoor
open Go Go.Ab Go.ChangeShapes Go.WideShapes Go.ChangeAt Go.RowKit

set_option maxRecDepth 100000 in
theorem watchMore_lifted (os : Os) (started : os.Started) (H : Type) (enc : TypeId × Value → H) :
    ReturnsInHanded {} Tryd.checked os 9 .any (fun w args => (Rows.watchMoreSpec.pre enc Tryd.prog Tryd.f9 [] false w args ∧ laidMetH Tryd.prog laid2 w) ∧ sizedMet enc Tryd.prog Tryd.f9 (OpenSpec.ofChange Rows.watchMoreSpec) false w args)
      (Rows.watchMoreSpec.post enc Tryd.prog Tryd.f9 false true false false) := by
  refine returnsInHanded_of_change_and (C := Tryd.checked) (X := fun w _ => laidMetH Tryd.prog laid2 w) (fun _ _ _ hh h => h.of_heap hh) own' started (by kernel_rfl) Tryd.func9
    (ChangeSpec.witness_shaped (enc := enc) (C := Tryd.checked) (os := os) (X := fun w _ => laidMetH Tryd.prog laid2 w) false (World.doorLaid Tryd.prog 400 os) #[.agg #[.slice none 0 0, .slice none 0 0], .agg #[.int .i64 0, .int .i64 0, .int .i64 0, .int .i64 0], .agg #[.int .i64 0, .int .i64 0, .int .i64 0, .int .i64 0, .bool false], .int .u8 0] 8 rfl (World.shaped_of_RefB (by kernel_rfl) (by kernel_rfl)) (by kernel_rfl) (by kernel_rfl) (by kernel_rfl) (door_met os _)) ?_
  intro W base args ds gs before hval0 hW _ _ hL _
  have hval : ∀ (j : Nat) t v, Tryd.f9.params[j]? = some t → args[j]? = some v → Value.okWide Tryd.prog W .any base t v := hval0
  have hW' := hW
  obtain ⟨p, q, hA0, hV, rfl, _, _⟩ := hW
  have hA : DataW.TrodAll enc Tryd.prog W 0 (fun _ => true) true Tryd.f9.params.toList args.toList ds p := hA0
  rw [Tryd.params9] at hA hval
  obtain ⟨v0, vs0, d0, ds0, p0, q0, hargs, rfl, rfl, h0, r0⟩ := trodAll_cons hA
  obtain ⟨v1, vs1, d1, ds1, p1, q1, rfl, rfl, rfl, h1, r1⟩ := trodAll_cons r0
  obtain ⟨v2, vs2, d2, ds2, p2, q2, rfl, rfl, rfl, h2, r2⟩ := trodAll_cons r1
  obtain ⟨v3, vs3, d3, ds3, p3, q3, rfl, rfl, rfl, h3, r3⟩ := trodAll_cons r2
  obtain ⟨rfl, rfl, rfl⟩ := trodAll_nil r3
  obtain rfl : args = #[v0, v1, v2, v3] := by cases args; simp_all
  obtain ⟨rfl, rfl⟩ := trodVars_none hV
  obtain ⟨w0, hF0, rT0⟩ := open_watch (hval 0 25 v0 rfl rfl) h0
  obtain ⟨w1, rT1⟩ := open_owner (hval 1 59 v1 rfl rfl) h1
  obtain ⟨w2, rT2⟩ := open_find (hval 2 53 v2 rfl rfl) h2
  obtain ⟨i3, rfl, rfl, rfl, w3⟩ := open_int Tryd.underlying5 (hval 3 5 v3 rfl rfl) h3
  obtain ⟨u3, rfl, hu3⟩ := u8_nat w3
  refine law_calls (tb := 4) (argsT := [tWa w0, tOw w1, tFi w2, .lit (.int .u8 u3)]) laidOut' mapsRowed' fullRows (by rw [Tryd.params9]; decide +kernel) rfl rfl (by kernel_rfl) Tryd.underlying4 hW' ?_ (glob_ok hL) (WatchMore_ok w0 hF0.lens w1 w2 u3 hu3)
  unfold RepTs
  refine ⟨v0, [v1, v2, .int .u8 u3], rfl, rT0, ?_⟩
  unfold RepTs
  refine ⟨v1, [v2, .int .u8 u3], rfl, rT1, ?_⟩
  unfold RepTs
  refine ⟨v2, [.int .u8 u3], rfl, rT2, ?_⟩
  unfold RepTs
  refine ⟨.int .u8 u3, [], rfl, by unfold RepT; rfl, ?_⟩
  unfold RepTs
  rfl

theorem watchMore_holds : Rows.WatchMoreSaid :=
  OpenClaim.holds_of_wide 9 Tryd.f9 rfl rfl rfl rfl rfl rfl rfl ⟨rfl, rfl, rfl, rfl, rfl⟩ rfl rfl rfl rfl rfl (by kernel_rfl) Tryd.func9 (by kernel_rfl)
    (of_decide_eq_true (by kernel_rfl)) (by unfold Func.isWrapper; first | (rw [if_pos (by decide +kernel)]; kernel_rfl) | (rw [if_neg (by decide +kernel)]; exact ⟨rfl, rfl⟩))
    (fun os started H enc _ => watchMore_lifted os started H enc)

theorem WatchMore_said : Rows.WatchMoreCardSaid :=
  Claim7.holds_tied_plain_at .later [] [.data, .data] true (true, "fed5dcce40824fc84ad3ac3bdab7d8e7d479230b14351e1ce1da0efb86dd08ef") true
    watchMore_holds (fun _ h => by cases h) (by kernel_rfl) (fun _ h => by cases h) watchMore_row_tie rfl ⟨rfl, rfl⟩ (by kernel_rfl) rfl
    (fun f fn hf hfn => by
      obtain rfl : f = 9 := Option.some.inj ((show Tryd.prog.funcNamed "dipworks/dipworkslaw07.WatchMore" = some 9 by kernel_rfl).symm.trans hf) |>.symm
      obtain rfl : fn = Tryd.f9 := (Option.some.inj (Tryd.func9.symm.trans hfn)).symm
      exact ⟨by kernel_rfl, fun j t ht => by
        rw [Tryd.params9] at ht
        have hm : t ∈ [25, 59, 53, 5] := by simpa using Array.mem_of_getElem? ht
        have hall : ([25, 59, 53, 5].all fun u => !Tryd.prog.wantsStandIn u) = true := by kernel_rfl
        exact (show Tryd.prog.wantsStandIn t = false by simpa using List.all_eq_true.1 hall t hm)⟩)
    (by kernel_rfl)
end Go.Proofs.YtnmmhkkmejbckaaDoor
