/- Proved here: the statement WatchTrueCardSaid, of the given program. No conditions. -/
import Derived.Test.YtnmmhkkmejbckaaDoorEF
import Derived.Test.YtnmmhkkmejbckaaDoorEX
import Derived.Test.YtnmmhkkmejbckaaDoorTie
import Derived.Test.YtnmmhkkmejbckaaDoorCards

set_option linter.unusedSimpArgs false
set_option linter.unusedVariables false

/- WatchTrue: the statement. -/
namespace Go.Proofs.YtnmmhkkmejbckaaDoor
open Go Go.Ab Go.ChangeShapes Go.WideShapes Go.ChangeAt Go.RowKit

theorem kc56 : kcells Tryd.prog 20 56 = some [some .u16] := by kernel_rfl
theorem cl56 : ([some .u16] : Kinds).length = Tryd.prog.cellsOf 56 := by kernel_rfl

set_option maxRecDepth 100000 in
theorem wd56 : isWide Tryd.prog 56 = false := by kernel_rfl

set_option maxRecDepth 100000 in
theorem words_of {xs : List (List Int)} (h : ∀ y ∈ xs, KWf [some .u16] y) : ∃ ws : List Nat, xs.map (elT Tryd.prog 56 [some .u16]) = ws.map (fun w : Nat => .lit (.int .u16 w)) ∧ ws.length = xs.length ∧ ∀ w ∈ ws, w < 65536 := by
  induction xs with
  | nil => exact ⟨[], rfl, rfl, by simp⟩
  | cons y xs ih =>
    obtain ⟨l, e, hl, hb⟩ := ih fun z hz => h z (by simp [hz])
    have hy := h y (by simp)
    match y, hy with
    | [a], hy =>
      have ha : 0 ≤ a ∧ a ≤ 65535 := by simpa [Lit.wf, IntKind.min, IntKind.max, IntKind.signed, IntKind.bits] using hy.1
      refine ⟨a.toNat :: l, ?_, by simp [hl], fun s hs => ?_⟩
      · rw [List.map_cons, List.map_cons, e]
        congr 1
        unfold elT
        rw [wd56]
        simp only [kc, keyCell, List.headD_cons, Bool.false_eq_true, if_false]
        rw [show ((a.toNat : Nat) : Int) = a by omega]
      · rcases List.mem_cons.1 hs with rfl | hs
        · omega
        · exact hb s hs

set_option maxRecDepth 100000 in
theorem open_by {H : Type} {enc : TypeId × Value → H} {W : World} {base : Nat} {v : Value} {d : DataW H} {p : List MemPlace} (hval : Value.okWide Tryd.prog W .any base 42 v) (h : DataW.Trod enc Tryd.prog W 0 (fun _ => true) true 42 v d p) :
    ∃ ws : List Nat, (∀ w ∈ ws, w < 65536) ∧ ws.length ≤ maxLen ∧ RepT (Ab.hp (· < W.heap.size) W) (tBy ws) v := by
  unfold Value.okWide at hval
  rw [Tryd.underlying42] at hval
  simp only at hval
  obtain ⟨fuel, h⟩ := h
  have sp : ∀ a n k, v = .slice (some a) n k → a.spot = none := by
    intro a n k hc
    subst hc
    unfold Cell.okWide at hval
    rw [Tryd.underlying42] at hval
    simp only [Cell.ok, Tryd.underlying42] at hval
    exact hval.2.2.2.1
  have hc : v.cells.toList = [v] := by
    unfold Cell.okWide at hval
    rw [Tryd.underlying42] at hval
    cases v <;> first | rfl | (simp [Cell.ok, Tryd.underlying42] at hval)
  rw [hc] at h
  obtain ⟨x0, w0, l0, r0⟩ := trod_row Tryd.underlying42 kc56 cl56 (by decide) h sp
  obtain ⟨ws, e, hl, hb⟩ := words_of w0
  rw [e] at r0
  exact ⟨ws, hb, by omega, r0⟩

set_option maxRecDepth 100000 in
theorem watchTrue_lifted (os : Os) (started : os.Started) (H : Type) (enc : TypeId × Value → H) :
    ReturnsInHanded {} Tryd.checked os 4 .any (fun w args => (Rows.watchTrueSpec.pre enc Tryd.prog Tryd.f4 [] false w args ∧ laidMetH Tryd.prog laid2 w) ∧ sizedMet enc Tryd.prog Tryd.f4 (OpenSpec.ofChange Rows.watchTrueSpec) false w args)
      (Rows.watchTrueSpec.post enc Tryd.prog Tryd.f4 false true false false) := by
  refine returnsInHanded_of_change_and (C := Tryd.checked) (X := fun w _ => laidMetH Tryd.prog laid2 w) (fun _ _ _ hh h => h.of_heap hh) own' started (by kernel_rfl) Tryd.func4
    (ChangeSpec.witness_shaped (enc := enc) (C := Tryd.checked) (os := os) (X := fun w _ => laidMetH Tryd.prog laid2 w) false (World.doorLaid Tryd.prog 400 os) #[.slice none 0 0] 8 rfl (World.shaped_of_RefB (by kernel_rfl) (by kernel_rfl)) (by kernel_rfl) (by kernel_rfl) (by kernel_rfl) (door_met os _)) ?_
  intro W base args ds gs before hval0 hW _ _ hL _
  have hval : ∀ (j : Nat) t v, Tryd.f4.params[j]? = some t → args[j]? = some v → Value.okWide Tryd.prog W .any base t v := hval0
  have hW' := hW
  obtain ⟨p, q, hA0, hV, rfl, _, _⟩ := hW
  have hA : DataW.TrodAll enc Tryd.prog W 0 (fun _ => true) true Tryd.f4.params.toList args.toList ds p := hA0
  rw [Tryd.params4] at hA hval
  obtain ⟨v0, vs0, d0, ds0, p0, q0, hargs, rfl, rfl, h0, r0⟩ := trodAll_cons hA
  obtain ⟨rfl, rfl, rfl⟩ := trodAll_nil r0
  obtain rfl : args = #[v0] := by cases args; simp_all
  obtain ⟨rfl, rfl⟩ := trodVars_none hV
  obtain ⟨ws0, hw0, hl0, rT0⟩ := open_by (hval 0 42 v0 rfl rfl) h0
  refine law_calls (tb := 4) (argsT := [tBy ws0]) laidOut' mapsRowed' fullRows (by rw [Tryd.params4]; decide +kernel) rfl rfl (by kernel_rfl) Tryd.underlying4 hW' ?_ (glob_ok hL) (WatchTrue_ok ws0 hw0 (by unfold maxLen at hl0; omega))
  unfold RepTs
  refine ⟨v0, [], rfl, rT0, ?_⟩
  unfold RepTs
  rfl

theorem watchTrue_holds : Rows.WatchTrueSaid :=
  OpenClaim.holds_of_wide 4 Tryd.f4 rfl rfl rfl rfl rfl rfl rfl ⟨rfl, rfl, rfl, rfl, rfl⟩ rfl rfl rfl rfl rfl (by kernel_rfl) Tryd.func4 (by kernel_rfl)
    (of_decide_eq_true (by kernel_rfl)) (by unfold Func.isWrapper; first | (rw [if_pos (by decide +kernel)]; kernel_rfl) | (rw [if_neg (by decide +kernel)]; exact ⟨rfl, rfl⟩))
    (fun os started H enc _ => watchTrue_lifted os started H enc)

theorem WatchTrue_said : Rows.WatchTrueCardSaid :=
  Claim7.holds_tied_plain_at .later [] [.data, .data] true (true, "fed5dcce40824fc84ad3ac3bdab7d8e7d479230b14351e1ce1da0efb86dd08ef") true
    watchTrue_holds (fun _ h => by cases h) (by kernel_rfl) (fun _ h => by cases h) watchTrue_row_tie rfl ⟨rfl, rfl⟩ (by kernel_rfl) rfl
    (fun f fn hf hfn => by
      obtain rfl : f = 4 := Option.some.inj ((show Tryd.prog.funcNamed "dipworks/dipworkslaw07.WatchTrue" = some 4 by kernel_rfl).symm.trans hf) |>.symm
      obtain rfl : fn = Tryd.f4 := (Option.some.inj (Tryd.func4.symm.trans hfn)).symm
      exact ⟨by kernel_rfl, fun j t ht => by
        rw [Tryd.params4] at ht
        have hm : t ∈ [42] := by simpa using Array.mem_of_getElem? ht
        have hall : ([42].all fun u => !Tryd.prog.wantsStandIn u) = true := by kernel_rfl
        exact (show Tryd.prog.wantsStandIn t = false by simpa using List.all_eq_true.1 hall t hm)⟩)
    (by kernel_rfl)
end Go.Proofs.YtnmmhkkmejbckaaDoor
