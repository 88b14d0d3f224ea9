/- Proved here: the statement BoatTrueCardSaid, of the given program. No conditions. -/
import Derived.Test.YtafcdpmcmmfbhaaDoorBH
import Derived.Test.YtafcdpmcmmfbhaaDoorBZ
import Derived.Test.YtafcdpmcmmfbhaaDoorTie
import Derived.Test.YtafcdpmcmmfbhaaDoorCards

set_option linter.unusedSimpArgs false
set_option linter.unusedVariables false

/- BoatTrue: the statement. -/
namespace Go.Proofs.YtafcdpmcmmfbhaaDoor
open Go Go.Ab Go.ChangeShapes Go.WideShapes Go.ChangeAt Go.RowKit

theorem kcE5 : kcells Tryd.prog 20 5 = some [some .u8] := by kernel_rfl
theorem clE5 : ([some .u8] : Kinds).length = Tryd.prog.cellsOf 5 := by kernel_rfl

set_option maxRecDepth 100000 in
theorem wdE5 : isWide Tryd.prog 5 = false := by kernel_rfl

set_option maxRecDepth 100000 in
theorem words_of {xs : List (List Int)} (h : ∀ y ∈ xs, KWf [some .u8] y) : ∃ ws : List Nat, xs.map (elT Tryd.prog 5 [some .u8]) = ws.map (fun w : Nat => .lit (.int .u8 w)) ∧ ws.length = xs.length ∧ ∀ w ∈ ws, w < 256 := by
  induction xs with
  | nil => exact ⟨[], rfl, rfl, by simp⟩
  | cons y xs ih =>
    obtain ⟨l, e, hl, hb⟩ := ih fun z hz => h z (by simp [hz])
    have hy := h y (by simp)
    match y, hy with
    | [a], hy =>
      have ha : 0 ≤ a ∧ a ≤ 255 := by simpa [Lit.wf, IntKind.min, IntKind.max, IntKind.signed, IntKind.bits] using hy.1
      refine ⟨a.toNat :: l, ?_, by simp [hl], fun s hs => ?_⟩
      · rw [List.map_cons, List.map_cons, e]
        congr 1
        unfold elT
        rw [wdE5]
        simp only [kc, keyCell, List.headD_cons, Bool.false_eq_true, if_false]
        rw [show ((a.toNat : Nat) : Int) = a by omega]
      · rcases List.mem_cons.1 hs with rfl | hs
        · omega
        · exact hb s hs

set_option maxRecDepth 100000 in
theorem open_by {H : Type} {enc : TypeId × Value → H} {W : World} {base : Nat} {v : Value} {d : DataW H} {p : List MemPlace} (hval : Value.okWide Tryd.prog W .any base 41 v) (h : DataW.Trod enc Tryd.prog W 0 (fun _ => true) true 41 v d p) :
    ∃ ws : List Nat, (∀ w ∈ ws, w < 256) ∧ ws.length ≤ maxLen ∧ RepT (Ab.hp (· < W.heap.size) W) (tB8 ws) v := by
  unfold Value.okWide at hval
  rw [Tryd.underlying41] at hval
  simp only at hval
  obtain ⟨fuel, h⟩ := h
  have sp : ∀ a n k, v = .slice (some a) n k → a.spot = none := by
    intro a n k hc
    subst hc
    unfold Cell.okWide at hval
    rw [Tryd.underlying41] at hval
    simp only [Cell.ok, Tryd.underlying41] at hval
    exact hval.2.2.2.1
  have hc : v.cells.toList = [v] := by
    unfold Cell.okWide at hval
    rw [Tryd.underlying41] at hval
    cases v <;> first | rfl | (simp [Cell.ok, Tryd.underlying41] at hval)
  rw [hc] at h
  obtain ⟨x0, w0, l0, r0⟩ := trod_row Tryd.underlying41 kcE5 clE5 (by decide) h sp
  obtain ⟨ws, e, hl, hb⟩ := words_of w0
  rw [e] at r0
  exact ⟨ws, hb, by omega, r0⟩

set_option maxRecDepth 100000 in
theorem boatTrue_lifted (os : Os) (started : os.Started) (H : Type) (enc : TypeId × Value → H) :
    ReturnsInHanded {} Tryd.checked os 6 .any (fun w args => (Rows.boatTrueSpec.pre enc Tryd.prog Tryd.f6 [] false w args ∧ laidMetH Tryd.prog laid2 w) ∧ sizedMet enc Tryd.prog Tryd.f6 (OpenSpec.ofChange Rows.boatTrueSpec) false w args)
      (Rows.boatTrueSpec.post enc Tryd.prog Tryd.f6 false true false false) := by
  refine returnsInHanded_of_change_and (C := Tryd.checked) (X := fun w _ => laidMetH Tryd.prog laid2 w) (fun _ _ _ hh h => h.of_heap hh) own' started (by kernel_rfl) Tryd.func6
    (ChangeSpec.witness_shaped (enc := enc) (C := Tryd.checked) (os := os) (X := fun w _ => laidMetH Tryd.prog laid2 w) false (World.doorLaid Tryd.prog 400 os) #[.agg #[.int .i64 0, .int .i64 0, .int .i64 0, .int .i64 0, .slice none 0 0], .int .u8 0, .int .u8 0, .slice none 0 0, .int .u8 0, .int .u8 0] 8 rfl (World.shaped_of_RefB (by kernel_rfl) (by kernel_rfl)) (by kernel_rfl) (by kernel_rfl) (by kernel_rfl) (door_met os _)) ?_
  intro W base args ds gs before hval0 hW _ _ hL _
  have hval : ∀ (j : Nat) t v, Tryd.f6.params[j]? = some t → args[j]? = some v → Value.okWide Tryd.prog W .any base t v := hval0
  have hW' := hW
  obtain ⟨p, q, hA0, hV, rfl, _, _⟩ := hW
  have hA : DataW.TrodAll enc Tryd.prog W 0 (fun _ => true) true Tryd.f6.params.toList args.toList ds p := hA0
  rw [Tryd.params6] at hA hval
  obtain ⟨v0, vs0, d0, ds0, p0, q0, hargs, rfl, rfl, h0, r0⟩ := trodAll_cons hA
  obtain ⟨v1, vs1, d1, ds1, p1, q1, rfl, rfl, rfl, h1, r1⟩ := trodAll_cons r0
  obtain ⟨v2, vs2, d2, ds2, p2, q2, rfl, rfl, rfl, h2, r2⟩ := trodAll_cons r1
  obtain ⟨v3, vs3, d3, ds3, p3, q3, rfl, rfl, rfl, h3, r3⟩ := trodAll_cons r2
  obtain ⟨v4, vs4, d4, ds4, p4, q4, rfl, rfl, rfl, h4, r4⟩ := trodAll_cons r3
  obtain ⟨v5, vs5, d5, ds5, p5, q5, rfl, rfl, rfl, h5, r5⟩ := trodAll_cons r4
  obtain ⟨rfl, rfl, rfl⟩ := trodAll_nil r5
  obtain rfl : args = #[v0, v1, v2, v3, v4, v5] := by cases args; simp_all
  obtain ⟨rfl, rfl⟩ := trodVars_none hV
  obtain ⟨f, hF, rT⟩ := open_boat (hval 0 24 v0 rfl rfl) h0
  obtain ⟨i1, rfl, rfl, rfl, w1⟩ := open_int Tryd.underlying5 (hval 1 5 v1 rfl rfl) h1
  obtain ⟨u1, rfl, hu1⟩ := u8_nat w1
  obtain ⟨i2, rfl, rfl, rfl, w2⟩ := open_int Tryd.underlying5 (hval 2 5 v2 rfl rfl) h2
  obtain ⟨u2, rfl, hu2⟩ := u8_nat w2
  obtain ⟨ws3, hw3, hl3, rY3⟩ := open_by (hval 3 41 v3 rfl rfl) h3
  obtain ⟨i4, rfl, rfl, rfl, w4⟩ := open_int Tryd.underlying5 (hval 4 5 v4 rfl rfl) h4
  obtain ⟨u4, rfl, hu4⟩ := u8_nat w4
  obtain ⟨i5, rfl, rfl, rfl, w5⟩ := open_int Tryd.underlying5 (hval 5 5 v5 rfl rfl) h5
  obtain ⟨u5, rfl, hu5⟩ := u8_nat w5
  refine law_calls (tb := 4) (argsT := [.agg (bo5 f), .lit (.int .u8 u1), .lit (.int .u8 u2), tB8 ws3, .lit (.int .u8 u4), .lit (.int .u8 u5)]) laidOut' mapsRowed' fullRows (by rw [Tryd.params6]; decide +kernel) rfl rfl (by kernel_rfl) Tryd.underlying4 hW' ?_ (glob_ok hL) (BoatTrue_ok f hF.lens u1 hu1 u2 hu2 ws3 hw3 (by unfold maxLen at hl3; omega) u4 hu4 u5 hu5)
  unfold RepTs
  refine ⟨v0, [.int .u8 u1, .int .u8 u2, v3, .int .u8 u4, .int .u8 u5], rfl, rT, ?_⟩
  unfold RepTs
  refine ⟨_, _, rfl, by unfold RepT; rfl, ?_⟩
  unfold RepTs
  refine ⟨_, _, rfl, by unfold RepT; rfl, ?_⟩
  unfold RepTs
  refine ⟨_, _, rfl, rY3, ?_⟩
  unfold RepTs
  refine ⟨_, _, rfl, by unfold RepT; rfl, ?_⟩
  unfold RepTs
  refine ⟨_, _, rfl, by unfold RepT; rfl, ?_⟩
  unfold RepTs
  rfl

theorem boatTrue_holds : Rows.BoatTrueSaid :=
  OpenClaim.holds_of_wide 6 Tryd.f6 rfl rfl rfl rfl rfl rfl rfl ⟨rfl, rfl, rfl, rfl, rfl⟩ rfl rfl rfl rfl rfl (by kernel_rfl) Tryd.func6 (by kernel_rfl)
    (of_decide_eq_true (by kernel_rfl)) (by unfold Func.isWrapper; first | (rw [if_pos (by decide +kernel)]; kernel_rfl) | (rw [if_neg (by decide +kernel)]; exact ⟨rfl, rfl⟩))
    (fun os started H enc _ => boatTrue_lifted os started H enc)

theorem BoatTrue_said : Rows.BoatTrueCardSaid :=
  Claim7.holds_tied_plain_at .later [] [.data] true (true, "9c843c092e058003e547667ef1766a526383fa8f7925694362302ae9ad6cb784") true
    boatTrue_holds (fun _ h => by cases h) (by kernel_rfl) (fun _ h => by cases h) boatTrue_row_tie rfl ⟨rfl, rfl⟩ (by kernel_rfl) rfl
    (fun f fn hf hfn => by
      obtain rfl : f = 6 := Option.some.inj ((show Tryd.prog.funcNamed "dipworks/dipworkslaw12.BoatTrue" = some 6 by kernel_rfl).symm.trans hf) |>.symm
      obtain rfl : fn = Tryd.f6 := (Option.some.inj (Tryd.func6.symm.trans hfn)).symm
      exact ⟨by kernel_rfl, fun j t ht => by
        rw [Tryd.params6] at ht
        have hm : t ∈ [24, 5, 5, 41, 5, 5] := by simpa using Array.mem_of_getElem? ht
        have hall : ([24, 5, 5, 41, 5, 5].all fun u => !Tryd.prog.wantsStandIn u) = true := by kernel_rfl
        exact (show Tryd.prog.wantsStandIn t = false by simpa using List.all_eq_true.1 hall t hm)⟩)
    (by kernel_rfl)
end Go.Proofs.YtafcdpmcmmfbhaaDoor
