/- Proved here: the statement TopSafeCardSaid, of the given program. No conditions. -/
import Derived.Test.YtbhbbjngndmnmaaGreatDoorUI
import Derived.Test.YtbhbbjngndmnmaaGreatDoorTie
import Derived.Test.YtbhbbjngndmnmaaGreatDoorCards
set_option linter.unusedSimpArgs false
set_option linter.unusedVariables false
namespace Go.Proofs.YtbhbbjngndmnmaaGreatDoor
open Go Go.Ab Go.ChangeShapes Go.WideShapes Go.ChangeAt Go.RowKit
theorem TopSafe_ok (s : S.Su) (f : F.Fl) (b : B.Bo) (hsl : S.Lens s) (hfl : f.hs.length < 9223372036854775808 ∧ f.ss.length < 9223372036854775808) (hbl : B.Lens b) (r : Nat) (hr : r < 256) (ws : List Nat) (hw : ∀ w ∈ ws, w < 65536) (hwl : ws.length < 9223372036854775808)
    (u : Nat) (hu : u < 256) (vs : List Nat) (hv : ∀ v ∈ vs, v < 256) (hvl : vs.length < 9223372036854775808) :
    ACall Tryz.prog 3 [.t (.agg (S.su5 s)), .t (.agg (F.fl5 f)), .t (.agg (B.bo5 b)), .t (tU r), .t (tBy ws), .t (tU u), .t (tB8 vs)] [] (res (.ret (.t (vb true)))) :=
  TopSafe_head s f b hsl hfl hbl r hr ws hw hwl u hu vs hv hvl fun hF st hst => TopSafe_tail s f b hF r hr ws vs hw hwl st hst fun st hst => TopSafe_end s f b hF r hr ws st hst
set_option maxRecDepth 100000 in
theorem topSafe_lifted (os : Os) (started : os.Started) (H : Type) (enc : TypeId × Value → H) :
    ReturnsInHanded {} Tryz.checked os 3 .any (fun w args => (Rows.topSafeSpec.pre enc Tryz.prog Tryz.f3 [] false w args ∧ laidMetH Tryz.prog laid2 w) ∧ sizedMet enc Tryz.prog Tryz.f3 (OpenSpec.ofChange Rows.topSafeSpec) false w args)
      (Rows.topSafeSpec.post enc Tryz.prog Tryz.f3 false true false false) := by
  refine returnsInHanded_of_change_and (C := Tryz.checked) (X := fun w _ => laidMetH Tryz.prog laid2 w) (fun _ _ _ hh h => h.of_heap hh) own' started (by kernel_rfl) Tryz.func3
    (ChangeSpec.witness_shaped (enc := enc) (C := Tryz.checked) (os := os) (X := fun w _ => laidMetH Tryz.prog laid2 w) false (World.doorLaid Tryz.prog 400 os) #[.agg #[.int .i64 0, .int .i64 0, .slice none 0 0, .slice none 0 0, .slice none 0 0], .agg #[.int .i64 0, .int .i64 0, .int .i64 0, .slice none 0 0, .slice none 0 0], .agg #[.int .i64 0, .int .i64 0, .int .i64 0, .int .i64 0, .slice none 0 0], .int .u8 0, .slice none 0 0, .int .u8 0, .slice none 0 0] 8 rfl (World.shaped_of_RefB (by kernel_rfl) (by kernel_rfl)) (by kernel_rfl) (by kernel_rfl) (by kernel_rfl) (door_met os _)) ?_
  intro W base args ds gs before hval0 hW _ _ hL _
  have hval : ∀ (j : Nat) t v, Tryz.f3.params[j]? = some t → args[j]? = some v → Value.okWide Tryz.prog W .any base t v := hval0
  have hW' := hW
  obtain ⟨p, q, hA0, hV, rfl, _, _⟩ := hW
  have hA : DataW.TrodAll enc Tryz.prog W 0 (fun _ => true) true Tryz.f3.params.toList args.toList ds p := hA0
  rw [Tryz.params3] at hA hval
  obtain ⟨v0, vs0, d0, ds0, p0, q0, hargs, rfl, rfl, h0, r0⟩ := trodAll_cons hA
  obtain ⟨v1, vs1, d1, ds1, p1, q1, rfl, rfl, rfl, h1, r1⟩ := trodAll_cons r0
  obtain ⟨v2, vs2, d2, ds2, p2, q2, rfl, rfl, rfl, h2, r2⟩ := trodAll_cons r1
  obtain ⟨v3, vs3, d3, ds3, p3, q3, rfl, rfl, rfl, h3, r3⟩ := trodAll_cons r2
  obtain ⟨v4, vs4, d4, ds4, p4, q4, rfl, rfl, rfl, h4, r4⟩ := trodAll_cons r3
  obtain ⟨v5, vs5, d5, ds5, p5, q5, rfl, rfl, rfl, h5, r5⟩ := trodAll_cons r4
  obtain ⟨v6, vs6, d6, ds6, p6, q6, rfl, rfl, rfl, h6, r6⟩ := trodAll_cons r5
  obtain ⟨rfl, rfl, rfl⟩ := trodAll_nil r6
  obtain rfl : args = #[v0, v1, v2, v3, v4, v5, v6] := by cases args; simp_all
  obtain ⟨rfl, rfl⟩ := trodVars_none hV
  obtain ⟨s, sF, rS⟩ := S.open_surf (hval 0 25 v0 rfl rfl) h0
  obtain ⟨f, fF, rF⟩ := F.open_flag (hval 1 29 v1 rfl rfl) h1
  obtain ⟨b, bF, rB⟩ := B.open_boat (hval 2 32 v2 rfl rfl) h2
  obtain ⟨i3, rfl, rfl, rfl, w3⟩ := open_int Tryz.underlying5 (hval 3 5 v3 rfl rfl) h3
  obtain ⟨u3, rfl, hu3⟩ := u8_nat w3
  obtain ⟨ws4, hw4, hl4, rY4⟩ := open_by16 (hval 4 33 v4 rfl rfl) h4
  obtain ⟨i5, rfl, rfl, rfl, w5⟩ := open_int Tryz.underlying5 (hval 5 5 v5 rfl rfl) h5
  obtain ⟨u5, rfl, hu5⟩ := u8_nat w5
  obtain ⟨ws6, hw6, hl6, rY6⟩ := open_by8 (hval 6 34 v6 rfl rfl) h6
  refine law_calls (tb := 4) (argsT := [.agg (S.su5 s), .agg (F.fl5 f), .agg (B.bo5 b), .lit (.int .u8 u3), tBy ws4, .lit (.int .u8 u5), tB8 ws6]) laidOut' mapsRowed' fullRows (by rw [Tryz.params3]; decide +kernel) rfl rfl (by kernel_rfl) Tryz.underlying4 hW' ?_ (glob_ok hL)
    (TopSafe_ok s f b sF.lens fF.lens bF.lens u3 hu3 ws4 hw4 (by unfold maxLen at hl4; omega) u5 hu5 ws6 hw6 (by unfold maxLen at hl6; omega))
  unfold RepTs
  refine ⟨_, _, rfl, rS, ?_⟩
  unfold RepTs
  refine ⟨_, _, rfl, rF, ?_⟩
  unfold RepTs
  refine ⟨_, _, rfl, rB, ?_⟩
  unfold RepTs
  refine ⟨_, _, rfl, by unfold RepT; rfl, ?_⟩
  unfold RepTs
  refine ⟨_, _, rfl, rY4, ?_⟩
  unfold RepTs
  refine ⟨_, _, rfl, by unfold RepT; rfl, ?_⟩
  unfold RepTs
  refine ⟨_, _, rfl, rY6, ?_⟩
  unfold RepTs
  rfl
theorem topSafe_holds : Rows.TopSafeSaid :=
  OpenClaim.holds_of_wide 3 Tryz.f3 rfl rfl rfl rfl rfl rfl rfl ⟨rfl, rfl, rfl, rfl, rfl⟩ rfl rfl rfl rfl rfl (by kernel_rfl) Tryz.func3 (by kernel_rfl)
    (of_decide_eq_true (by kernel_rfl)) (by unfold Func.isWrapper; first | (rw [if_pos (by decide +kernel)]; kernel_rfl) | (rw [if_neg (by decide +kernel)]; exact ⟨rfl, rfl⟩))
    (fun os started H enc _ => topSafe_lifted os started H enc)
theorem TopSafe_said : Rows.TopSafeCardSaid :=
  Claim7.holds_tied_plain_at .later [] [.data, .data] true (true, "3b01f3e7945e7d101a82755dd0f74e6addb2a2009cb185eeb2fabc39a51e2666") true
    topSafe_holds (fun _ h => by cases h) (by kernel_rfl) (fun _ h => by cases h) topSafe_row_tie rfl ⟨rfl, rfl⟩ (by kernel_rfl) rfl
    (fun f fn hf hfn => by
      obtain rfl : f = 3 := Option.some.inj ((show Tryz.prog.funcNamed "dipworks/dipworkstop.TopSafe" = some 3 by kernel_rfl).symm.trans hf) |>.symm
      obtain rfl : fn = Tryz.f3 := (Option.some.inj (Tryz.func3.symm.trans hfn)).symm
      exact ⟨by kernel_rfl, fun j t ht => by
        rw [Tryz.params3] at ht
        have hm : t ∈ [25, 29, 32, 5, 33, 5, 34] := by simpa using Array.mem_of_getElem? ht
        have hall : ([25, 29, 32, 5, 33, 5, 34].all fun u => !Tryz.prog.wantsStandIn u) = true := by kernel_rfl
        exact (show Tryz.prog.wantsStandIn t = false by simpa using List.all_eq_true.1 hall t hm)⟩)
    (by kernel_rfl)
end Go.Proofs.YtbhbbjngndmnmaaGreatDoor
