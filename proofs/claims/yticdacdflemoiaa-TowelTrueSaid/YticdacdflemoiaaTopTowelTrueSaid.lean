/- Proved here: the statement TowelTrueSaid, of the given program. No conditions. -/
import Derived.Test.YticdacdflemoiaaLC
import Derived.Test.YticdacdflemoiaaLU

set_option linter.unusedSimpArgs false
set_option linter.unusedVariables false

/- TowelTrue: the statement. -/
namespace Go.Proofs.Yticdacdflemoiaa
open Go Go.Ab Go.ChangeShapes Go.WideShapes Go.ChangeAt Go.RowKit

theorem kc109 : kcells Try.prog 20 109 = some [some .u16] := by kernel_rfl
theorem cl109 : ([some .u16] : Kinds).length = Try.prog.cellsOf 109 := by kernel_rfl

set_option maxRecDepth 100000 in
theorem wd109 : isWide Try.prog 109 = false := by kernel_rfl

set_option maxRecDepth 100000 in
theorem words_of {xs : List (List Int)} (h : ∀ y ∈ xs, KWf [some .u16] y) : ∃ ws : List Nat, xs.map (elT Try.prog 109 [some .u16]) = ws.map (fun w : Nat => .lit (.int .u16 w)) ∧ ws.length = xs.length ∧ ∀ w ∈ ws, w < 65536 := by
  induction xs with
  | nil => exact ⟨[], rfl, rfl, by simp⟩
  | cons y xs ih =>
    obtain ⟨l, e, hl, hb⟩ := ih fun z hz => h z (by simp [hz])
    have hy := h y (by simp)
    match y, hy with
    | [a], hy =>
      have ha : 0 ≤ a ∧ a ≤ 65535 := by simpa [Lit.wf, IntKind.min, IntKind.max, IntKind.signed, IntKind.bits] using hy.1
      refine ⟨a.toNat :: l, ?_, by simp [hl], fun s hs => ?_⟩
      · rw [List.map_cons, List.map_cons, e]
        congr 1
        unfold elT
        rw [wd109]
        simp only [kc, keyCell, List.headD_cons, Bool.false_eq_true, if_false]
        rw [show ((a.toNat : Nat) : Int) = a by omega]
      · rcases List.mem_cons.1 hs with rfl | hs
        · omega
        · exact hb s hs

set_option maxRecDepth 100000 in
theorem open_by {H : Type} {enc : TypeId × Value → H} {W : World} {base : Nat} {v : Value} {d : DataW H} {p : List MemPlace} (hval : Value.okWide Try.prog W .any base 39 v) (h : DataW.Trod enc Try.prog W 0 (fun _ => true) true 39 v d p) :
    ∃ ws : List Nat, (∀ w ∈ ws, w < 65536) ∧ ws.length ≤ maxLen ∧ RepT (Ab.hp (· < W.heap.size) W) (tBy ws) v := by
  unfold Value.okWide at hval
  rw [Try.underlying39] at hval
  simp only at hval
  obtain ⟨fuel, h⟩ := h
  have sp : ∀ a n k, v = .slice (some a) n k → a.spot = none := by
    intro a n k hc
    subst hc
    unfold Cell.okWide at hval
    rw [Try.underlying39] at hval
    simp only [Cell.ok, Try.underlying39] at hval
    exact hval.2.2.2.1
  have hc : v.cells.toList = [v] := by
    unfold Cell.okWide at hval
    rw [Try.underlying39] at hval
    cases v <;> first | rfl | (simp [Cell.ok, Try.underlying39] at hval)
  rw [hc] at h
  obtain ⟨x0, w0, l0, r0⟩ := trod_row Try.underlying39 kc109 cl109 (by decide) h sp
  obtain ⟨ws, e, hl, hb⟩ := words_of w0
  rw [e] at r0
  exact ⟨ws, hb, by omega, r0⟩

set_option maxRecDepth 100000 in
theorem lifted (os : Os) (started : os.Started) (H : Type) (enc : TypeId × Value → H) :
    ReturnsInHanded {} Try.checked os 6 .any (Rows.towelTrueSpec.pre6 enc Try.prog Try.f6 Rows.towelTrueRow.domain false) (Rows.towelTrueSpec.post enc Try.prog Try.f6 false true false false) := by
  refine returnsInHanded_of_change (C := Try.checked) own' started (by kernel_rfl) Try.func6
    (ChangeSpec.witness6 (enc := enc) (C := Try.checked) false ⟨#[], #[.slice none 0 0], []⟩ 8 (by kernel_rfl) (by kernel_rfl) (by kernel_rfl) (by kernel_rfl)) ?_
  intro W base args ds gs before hval0 hW _ _
  have hval : ∀ (j : Nat) t v, Try.f6.params[j]? = some t → args[j]? = some v → Value.okWide Try.prog W .any base t v := hval0
  have hW' := hW
  obtain ⟨p, q, hA0, hV, rfl, _, _⟩ := hW
  have hA : DataW.TrodAll enc Try.prog W 0 (fun _ => true) true Try.f6.params.toList args.toList ds p := hA0
  rw [Try.params6] at hA hval
  obtain ⟨v0, vs0, d0, ds0, p0, q0, hargs, rfl, rfl, h0, r0⟩ := trodAll_cons hA
  obtain ⟨rfl, rfl, rfl⟩ := trodAll_nil r0
  obtain rfl : args = #[v0] := by cases args; simp_all
  obtain ⟨rfl, rfl⟩ := trodVars_none hV
  obtain ⟨ws, hF, hlen, rT⟩ := open_by (hval 0 39 v0 rfl rfl) h0
  refine law_calls (tb := 4) (argsT := [tBy ws]) laidOut' mapsRowed' fullRows (by rw [Try.params6]; decide +kernel) rfl rfl (by kernel_rfl) Try.underlying4 hW' ?_ (TowelTrue_ok ws hF (by unfold maxLen at hlen; omega))
  unfold RepTs
  refine ⟨_, [], rfl, rT, ?_⟩
  unfold RepTs
  rfl

theorem TowelTrue_said : Rows.TowelTrueSaid :=
  OpenClaim.holds_of_wide 6 Try.f6 rfl rfl rfl rfl rfl rfl rfl ⟨rfl, rfl, rfl, rfl, rfl⟩ rfl rfl rfl rfl rfl (by kernel_rfl) Try.func6 (by kernel_rfl)
    (of_decide_eq_true (by kernel_rfl)) (by unfold Func.isWrapper; first | (rw [if_pos (by decide +kernel)]; kernel_rfl) | (rw [if_neg (by decide +kernel)]; exact ⟨rfl, rfl⟩))
    (fun os started H enc _ => lifted os started H enc)
end Go.Proofs.Yticdacdflemoiaa
