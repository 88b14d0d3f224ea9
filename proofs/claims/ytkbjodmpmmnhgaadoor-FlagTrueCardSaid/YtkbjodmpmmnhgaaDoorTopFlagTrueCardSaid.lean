/- Proved here: the statement FlagTrueCardSaid, of the given program. No conditions. -/
import Derived.Test.YtkbjodmpmmnhgaaDoorMK
import Derived.Test.YtkbjodmpmmnhgaaDoorMZ
import Derived.Test.YtkbjodmpmmnhgaaDoorTie
import Derived.Test.YtkbjodmpmmnhgaaDoorCards

set_option linter.unusedSimpArgs false
set_option linter.unusedVariables false

/- FlagTrue: the statement. -/
namespace Go.Proofs.YtkbjodmpmmnhgaaDoor
open Go Go.Ab Go.ChangeShapes Go.WideShapes Go.ChangeAt Go.RowKit

theorem kc100 : kcells Tryd.prog 20 100 = some [some .u16] := by kernel_rfl
theorem cl100 : ([some .u16] : Kinds).length = Tryd.prog.cellsOf 100 := by kernel_rfl

set_option maxRecDepth 100000 in
theorem wd100 : isWide Tryd.prog 100 = false := by kernel_rfl

set_option maxRecDepth 100000 in
theorem words_of {xs : List (List Int)} (h : ∀ y ∈ xs, KWf [some .u16] y) : ∃ ws : List Nat, xs.map (elT Tryd.prog 100 [some .u16]) = ws.map (fun w : Nat => .lit (.int .u16 w)) ∧ ws.length = xs.length ∧ ∀ w ∈ ws, w < 65536 := by
  induction xs with
  | nil => exact ⟨[], rfl, rfl, by simp⟩
  | cons y xs ih =>
    obtain ⟨l, e, hl, hb⟩ := ih fun z hz => h z (by simp [hz])
    have hy := h y (by simp)
    match y, hy with
    | [a], hy =>
      have ha : 0 ≤ a ∧ a ≤ 65535 := by simpa [Lit.wf, IntKind.min, IntKind.max, IntKind.signed, IntKind.bits] using hy.1
      refine ⟨a.toNat :: l, ?_, by simp [hl], fun s hs => ?_⟩
      · rw [List.map_cons, List.map_cons, e]
        congr 1
        unfold elT
        rw [wd100]
        simp only [kc, keyCell, List.headD_cons, Bool.false_eq_true, if_false]
        rw [show ((a.toNat : Nat) : Int) = a by omega]
      · rcases List.mem_cons.1 hs with rfl | hs
        · omega
        · exact hb s hs

set_option maxRecDepth 100000 in
theorem open_by {H : Type} {enc : TypeId × Value → H} {W : World} {base : Nat} {v : Value} {d : DataW H} {p : List MemPlace} (hval : Value.okWide Tryd.prog W .any base 41 v) (h : DataW.Trod enc Tryd.prog W 0 (fun _ => true) true 41 v d p) :
    ∃ ws : List Nat, (∀ w ∈ ws, w < 65536) ∧ ws.length ≤ maxLen ∧ RepT (Ab.hp (· < W.heap.size) W) (tBy ws) v := by
  unfold Value.okWide at hval
  rw [Tryd.underlying41] at hval
  simp only at hval
  obtain ⟨fuel, h⟩ := h
  have sp : ∀ a n k, v = .slice (some a) n k → a.spot = none := by
    intro a n k hc
    subst hc
    unfold Cell.okWide at hval
    rw [Tryd.underlying41] at hval
    simp only [Cell.ok, Tryd.underlying41] at hval
    exact hval.2.2.2.1
  have hc : v.cells.toList = [v] := by
    unfold Cell.okWide at hval
    rw [Tryd.underlying41] at hval
    cases v <;> first | rfl | (simp [Cell.ok, Tryd.underlying41] at hval)
  rw [hc] at h
  obtain ⟨x0, w0, l0, r0⟩ := trod_row Tryd.underlying41 kc100 cl100 (by decide) h sp
  obtain ⟨ws, e, hl, hb⟩ := words_of w0
  rw [e] at r0
  exact ⟨ws, hb, by omega, r0⟩

set_option maxRecDepth 100000 in
theorem flagTrue_lifted (os : Os) (started : os.Started) (H : Type) (enc : TypeId × Value → H) :
    ReturnsInHanded {} Tryd.checked os 6 .any (fun w args => (Rows.flagTrueSpec.pre enc Tryd.prog Tryd.f6 [] false w args ∧ laidMetH Tryd.prog laid2 w) ∧ sizedMet enc Tryd.prog Tryd.f6 (OpenSpec.ofChange Rows.flagTrueSpec) false w args)
      (Rows.flagTrueSpec.post enc Tryd.prog Tryd.f6 false true false false) := by
  refine returnsInHanded_of_change_and (C := Tryd.checked) (X := fun w _ => laidMetH Tryd.prog laid2 w) (fun _ _ _ hh h => h.of_heap hh) own' started (by kernel_rfl) Tryd.func6
    (ChangeSpec.witness_shaped (enc := enc) (C := Tryd.checked) (os := os) (X := fun w _ => laidMetH Tryd.prog laid2 w) false (World.doorLaid Tryd.prog 400 os) #[.agg #[.int .i64 0, .int .i64 0, .int .i64 0, .slice none 0 0, .slice none 0 0], .slice none 0 0] 8 rfl (World.shaped_of_RefB (by kernel_rfl) (by kernel_rfl)) (by kernel_rfl) (by kernel_rfl) (by kernel_rfl) (door_met os _)) ?_
  intro W base args ds gs before hval0 hW _ _ hL _
  have hval : ∀ (j : Nat) t v, Tryd.f6.params[j]? = some t → args[j]? = some v → Value.okWide Tryd.prog W .any base t v := hval0
  have hW' := hW
  obtain ⟨p, q, hA0, hV, rfl, _, _⟩ := hW
  have hA : DataW.TrodAll enc Tryd.prog W 0 (fun _ => true) true Tryd.f6.params.toList args.toList ds p := hA0
  rw [Tryd.params6] at hA hval
  obtain ⟨v0, vs0, d0, ds0, p0, q0, hargs, rfl, rfl, h0, r0⟩ := trodAll_cons hA
  obtain ⟨v1, vs1, d1, ds1, p1, q1, rfl, rfl, rfl, h1, r1⟩ := trodAll_cons r0
  obtain ⟨rfl, rfl, rfl⟩ := trodAll_nil r1
  obtain rfl : args = #[v0, v1] := by cases args; simp_all
  obtain ⟨rfl, rfl⟩ := trodVars_none hV
  obtain ⟨f, hF, rT⟩ := open_flag (hval 0 25 v0 rfl rfl) h0
  obtain ⟨ws1, hw1, hl1, rY1⟩ := open_by (hval 1 41 v1 rfl rfl) h1
  refine law_calls (tb := 4) (argsT := [.agg (fl5 f), tBy ws1]) laidOut' mapsRowed' fullRows (by rw [Tryd.params6]; decide +kernel) rfl rfl (by kernel_rfl) Tryd.underlying4 hW' ?_ (glob_ok hL) (FlagTrue_ok f hF.lens ws1 hw1 (by unfold maxLen at hl1; omega))
  unfold RepTs
  refine ⟨v0, [v1], rfl, rT, ?_⟩
  unfold RepTs
  refine ⟨_, _, rfl, rY1, ?_⟩
  unfold RepTs
  rfl

theorem flagTrue_holds : Rows.FlagTrueSaid :=
  OpenClaim.holds_of_wide 6 Tryd.f6 rfl rfl rfl rfl rfl rfl rfl ⟨rfl, rfl, rfl, rfl, rfl⟩ rfl rfl rfl rfl rfl (by kernel_rfl) Tryd.func6 (by kernel_rfl)
    (of_decide_eq_true (by kernel_rfl)) (by unfold Func.isWrapper; first | (rw [if_pos (by decide +kernel)]; kernel_rfl) | (rw [if_neg (by decide +kernel)]; exact ⟨rfl, rfl⟩))
    (fun os started H enc _ => flagTrue_lifted os started H enc)

theorem FlagTrue_said : Rows.FlagTrueCardSaid :=
  Claim7.holds_tied_plain_at .later [] [.data, .data] true (true, "c253e14c53eb33179936b3b9fe4e612ecff39a61e206315e78384e6a52b4a1e8") true
    flagTrue_holds (fun _ h => by cases h) (by kernel_rfl) (fun _ h => by cases h) flagTrue_row_tie rfl ⟨rfl, rfl⟩ (by kernel_rfl) rfl
    (fun f fn hf hfn => by
      obtain rfl : f = 6 := Option.some.inj ((show Tryd.prog.funcNamed "dipworks/dipworkslaw10.FlagTrue" = some 6 by kernel_rfl).symm.trans hf) |>.symm
      obtain rfl : fn = Tryd.f6 := (Option.some.inj (Tryd.func6.symm.trans hfn)).symm
      exact ⟨by kernel_rfl, fun j t ht => by
        rw [Tryd.params6] at ht
        have hm : t ∈ [25, 41] := by simpa using Array.mem_of_getElem? ht
        have hall : ([25, 41].all fun u => !Tryd.prog.wantsStandIn u) = true := by kernel_rfl
        exact (show Tryd.prog.wantsStandIn t = false by simpa using List.all_eq_true.1 hall t hm)⟩)
    (by kernel_rfl)
end Go.Proofs.YtkbjodmpmmnhgaaDoor
