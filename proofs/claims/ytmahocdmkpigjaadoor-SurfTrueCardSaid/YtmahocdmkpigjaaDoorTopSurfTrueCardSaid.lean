/- Proved here: the statement SurfTrueCardSaid, of the given program. No conditions. -/
import Derived.Test.YtmahocdmkpigjaaDoorSF
import Derived.Test.YtmahocdmkpigjaaDoorSJ
import Derived.Test.YtmahocdmkpigjaaDoorTie
import Derived.Test.YtmahocdmkpigjaaDoorCards

set_option linter.unusedSimpArgs false
set_option linter.unusedVariables false

/- SurfTrue: the statement. -/
namespace Go.Proofs.YtmahocdmkpigjaaDoor
open Go Go.Ab Go.ChangeShapes Go.WideShapes Go.ChangeAt Go.RowKit

theorem kc109 : kcells Tryd.prog 20 109 = some [some .u16] := by kernel_rfl
theorem cl109 : ([some .u16] : Kinds).length = Tryd.prog.cellsOf 109 := by kernel_rfl

set_option maxRecDepth 100000 in
theorem wd109 : isWide Tryd.prog 109 = false := by kernel_rfl

set_option maxRecDepth 100000 in
theorem words_of {xs : List (List Int)} (h : ∀ y ∈ xs, KWf [some .u16] y) : ∃ ws : List Nat, xs.map (elT Tryd.prog 109 [some .u16]) = ws.map (fun w : Nat => .lit (.int .u16 w)) ∧ ws.length = xs.length ∧ ∀ w ∈ ws, w < 65536 := by
  induction xs with
  | nil => exact ⟨[], rfl, rfl, by simp⟩
  | cons y xs ih =>
    obtain ⟨l, e, hl, hb⟩ := ih fun z hz => h z (by simp [hz])
    have hy := h y (by simp)
    match y, hy with
    | [a], hy =>
      have ha : 0 ≤ a ∧ a ≤ 65535 := by simpa [Lit.wf, IntKind.min, IntKind.max, IntKind.signed, IntKind.bits] using hy.1
      refine ⟨a.toNat :: l, ?_, by simp [hl], fun s hs => ?_⟩
      · rw [List.map_cons, List.map_cons, e]
        congr 1
        unfold elT
        rw [wd109]
        simp only [kc, keyCell, List.headD_cons, Bool.false_eq_true, if_false]
        rw [show ((a.toNat : Nat) : Int) = a by omega]
      · rcases List.mem_cons.1 hs with rfl | hs
        · omega
        · exact hb s hs

set_option maxRecDepth 100000 in
theorem open_by {H : Type} {enc : TypeId × Value → H} {W : World} {base : Nat} {v : Value} {d : DataW H} {p : List MemPlace} (hval : Value.okWide Tryd.prog W .any base 45 v) (h : DataW.Trod enc Tryd.prog W 0 (fun _ => true) true 45 v d p) :
    ∃ ws : List Nat, (∀ w ∈ ws, w < 65536) ∧ ws.length ≤ maxLen ∧ RepT (Ab.hp (· < W.heap.size) W) (tBy ws) v := by
  unfold Value.okWide at hval
  rw [Tryd.underlying45] at hval
  simp only at hval
  obtain ⟨fuel, h⟩ := h
  have sp : ∀ a n k, v = .slice (some a) n k → a.spot = none := by
    intro a n k hc
    subst hc
    unfold Cell.okWide at hval
    rw [Tryd.underlying45] at hval
    simp only [Cell.ok, Tryd.underlying45] at hval
    exact hval.2.2.2.1
  have hc : v.cells.toList = [v] := by
    unfold Cell.okWide at hval
    rw [Tryd.underlying45] at hval
    cases v <;> first | rfl | (simp [Cell.ok, Tryd.underlying45] at hval)
  rw [hc] at h
  obtain ⟨x0, w0, l0, r0⟩ := trod_row Tryd.underlying45 kc109 cl109 (by decide) h sp
  obtain ⟨ws, e, hl, hb⟩ := words_of w0
  rw [e] at r0
  exact ⟨ws, hb, by omega, r0⟩

set_option maxRecDepth 100000 in
theorem surfTrue_lifted (os : Os) (started : os.Started) (H : Type) (enc : TypeId × Value → H) :
    ReturnsInHanded {} Tryd.checked os 6 .any (fun w args => (Rows.surfTrueSpec.pre enc Tryd.prog Tryd.f6 [] false w args ∧ laidMetH Tryd.prog laid2 w) ∧ sizedMet enc Tryd.prog Tryd.f6 (OpenSpec.ofChange Rows.surfTrueSpec) false w args)
      (Rows.surfTrueSpec.post enc Tryd.prog Tryd.f6 false true false false) := by
  refine returnsInHanded_of_change_and (C := Tryd.checked) (X := fun w _ => laidMetH Tryd.prog laid2 w) (fun _ _ _ hh h => h.of_heap hh) own' started (by kernel_rfl) Tryd.func6
    (ChangeSpec.witness_shaped (enc := enc) (C := Tryd.checked) (os := os) (X := fun w _ => laidMetH Tryd.prog laid2 w) false (World.doorLaid Tryd.prog 400 os) #[.agg #[.int .i64 0, .int .i64 0, .slice none 0 0, .slice none 0 0, .slice none 0 0], .slice none 0 0, .int .u8 0] 8 rfl (World.shaped_of_RefB (by kernel_rfl) (by kernel_rfl)) (by kernel_rfl) (by kernel_rfl) (by kernel_rfl) (door_met os _)) ?_
  intro W base args ds gs before hval0 hW _ _ hL _
  have hval : ∀ (j : Nat) t v, Tryd.f6.params[j]? = some t → args[j]? = some v → Value.okWide Tryd.prog W .any base t v := hval0
  have hW' := hW
  obtain ⟨p, q, hA0, hV, rfl, _, _⟩ := hW
  have hA : DataW.TrodAll enc Tryd.prog W 0 (fun _ => true) true Tryd.f6.params.toList args.toList ds p := hA0
  rw [Tryd.params6] at hA hval
  obtain ⟨v0, vs0, d0, ds0, p0, q0, hargs, rfl, rfl, h0, r0⟩ := trodAll_cons hA
  obtain ⟨v1, vs1, d1, ds1, p1, q1, rfl, rfl, rfl, h1, r1⟩ := trodAll_cons r0
  obtain ⟨v2, vs2, d2, ds2, p2, q2, rfl, rfl, rfl, h2, r2⟩ := trodAll_cons r1
  obtain ⟨rfl, rfl, rfl⟩ := trodAll_nil r2
  obtain rfl : args = #[v0, v1, v2] := by cases args; simp_all
  obtain ⟨rfl, rfl⟩ := trodVars_none hV
  obtain ⟨f, hF, rT⟩ := open_surf (hval 0 25 v0 rfl rfl) h0
  obtain ⟨ws1, hw1, hl1, rY1⟩ := open_by (hval 1 45 v1 rfl rfl) h1
  obtain ⟨i2, rfl, rfl, rfl, w2⟩ := open_int Tryd.underlying5 (hval 2 5 v2 rfl rfl) h2
  obtain ⟨u2, rfl, hu2⟩ := u8_nat w2
  refine law_calls (tb := 4) (argsT := [.agg (su5 f), tBy ws1, .lit (.int .u8 u2)]) laidOut' mapsRowed' fullRows (by rw [Tryd.params6]; decide +kernel) rfl rfl (by kernel_rfl) Tryd.underlying4 hW' ?_ (glob_ok hL) (SurfTrue_ok f hF.lens ws1 hw1 (by unfold maxLen at hl1; omega) u2 hu2)
  unfold RepTs
  refine ⟨v0, [v1, .int .u8 u2], rfl, rT, ?_⟩
  unfold RepTs
  refine ⟨_, _, rfl, rY1, ?_⟩
  unfold RepTs
  refine ⟨_, _, rfl, by unfold RepT; rfl, ?_⟩
  unfold RepTs
  rfl

theorem surfTrue_holds : Rows.SurfTrueSaid :=
  OpenClaim.holds_of_wide 6 Tryd.f6 rfl rfl rfl rfl rfl rfl rfl ⟨rfl, rfl, rfl, rfl, rfl⟩ rfl rfl rfl rfl rfl (by kernel_rfl) Tryd.func6 (by kernel_rfl)
    (of_decide_eq_true (by kernel_rfl)) (by unfold Func.isWrapper; first | (rw [if_pos (by decide +kernel)]; kernel_rfl) | (rw [if_neg (by decide +kernel)]; exact ⟨rfl, rfl⟩))
    (fun os started H enc _ => surfTrue_lifted os started H enc)

theorem SurfTrue_said : Rows.SurfTrueCardSaid :=
  Claim7.holds_tied_plain_at .later [] [.data, .data] true (true, "9c7ed6fdf0c6cc2cac3405ae83d5a94f7f51c69788e69a809226b7f5f9d47555") true
    surfTrue_holds (fun _ h => by cases h) (by kernel_rfl) (fun _ h => by cases h) surfTrue_row_tie rfl ⟨rfl, rfl⟩ (by kernel_rfl) rfl
    (fun f fn hf hfn => by
      obtain rfl : f = 6 := Option.some.inj ((show Tryd.prog.funcNamed "dipworks/dipworkslaw04.SurfTrue" = some 6 by kernel_rfl).symm.trans hf) |>.symm
      obtain rfl : fn = Tryd.f6 := (Option.some.inj (Tryd.func6.symm.trans hfn)).symm
      exact ⟨by kernel_rfl, fun j t ht => by
        rw [Tryd.params6] at ht
        have hm : t ∈ [25, 45, 5] := by simpa using Array.mem_of_getElem? ht
        have hall : ([25, 45, 5].all fun u => !Tryd.prog.wantsStandIn u) = true := by kernel_rfl
        exact (show Tryd.prog.wantsStandIn t = false by simpa using List.all_eq_true.1 hall t hm)⟩)
    (by kernel_rfl)
end Go.Proofs.YtmahocdmkpigjaaDoor
