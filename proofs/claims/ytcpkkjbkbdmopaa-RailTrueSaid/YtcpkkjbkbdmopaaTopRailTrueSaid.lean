/- Proved here: the statement RailTrueSaid, of the given program. No conditions. -/
import Derived.Test.YtcpkkjbkbdmopaaDG
import Derived.Test.YtcpkkjbkbdmopaaDP

set_option linter.unusedSimpArgs false
set_option linter.unusedVariables false

/- RailTrue: the statement. -/
namespace Go.Proofs.Ytcpkkjbkbdmopaa
open Go Go.Ab Go.ChangeShapes Go.WideShapes Go.ChangeAt Go.RowKit

theorem u16_nat {n : Int} (h : (Lit.int .u16 n).wf = true) : ∃ w : Nat, n = w ∧ w < 65536 := by
  have h1 : 0 ≤ n ∧ n ≤ 65535 := by simpa [Lit.wf, IntKind.min, IntKind.max, IntKind.signed, IntKind.bits] using h
  exact ⟨n.toNat, by omega, by omega⟩
theorem kcE5 : kcells Try.prog 20 5 = some [some .u8] := by kernel_rfl
theorem clE5 : ([some .u8] : Kinds).length = Try.prog.cellsOf 5 := by kernel_rfl

set_option maxRecDepth 100000 in
theorem wdE5 : isWide Try.prog 5 = false := by kernel_rfl

set_option maxRecDepth 100000 in
theorem bytes_of {xs : List (List Int)} (h : ∀ y ∈ xs, KWf [some .u8] y) : ∃ ws : List Nat, xs.map (elT Try.prog 5 [some .u8]) = ws.map (fun w : Nat => .lit (.int .u8 w)) ∧ ws.length = xs.length ∧ ∀ w ∈ ws, w < 256 := by
  induction xs with
  | nil => exact ⟨[], rfl, rfl, by simp⟩
  | cons y xs ih =>
    obtain ⟨l, e, hl, hb⟩ := ih fun z hz => h z (by simp [hz])
    have hy := h y (by simp)
    match y, hy with
    | [a], hy =>
      have ha : 0 ≤ a ∧ a ≤ 255 := by simpa [Lit.wf, IntKind.min, IntKind.max, IntKind.signed, IntKind.bits] using hy.1
      refine ⟨a.toNat :: l, ?_, by simp [hl], fun s hs => ?_⟩
      · rw [List.map_cons, List.map_cons, e]
        congr 1
        unfold elT
        rw [wdE5]
        simp only [kc, keyCell, List.headD_cons, Bool.false_eq_true, if_false]
        rw [show ((a.toNat : Nat) : Int) = a by omega]
      · rcases List.mem_cons.1 hs with rfl | hs
        · omega
        · exact hb s hs

set_option maxRecDepth 100000 in
theorem open_b8 {H : Type} {enc : TypeId × Value → H} {W : World} {base : Nat} {v : Value} {d : DataW H} {p : List MemPlace} (hval : Value.okWide Try.prog W .any base 57 v) (h : DataW.Trod enc Try.prog W 0 (fun _ => true) true 57 v d p) :
    ∃ ws : List Nat, (∀ w ∈ ws, w < 256) ∧ ws.length ≤ maxLen ∧ RepT (Ab.hp (· < W.heap.size) W) (tB8 ws) v := by
  unfold Value.okWide at hval
  rw [Try.underlying57] at hval
  simp only at hval
  obtain ⟨fuel, h⟩ := h
  have sp : ∀ a n k, v = .slice (some a) n k → a.spot = none := by
    intro a n k hc
    subst hc
    unfold Cell.okWide at hval
    rw [Try.underlying57] at hval
    simp only [Cell.ok, Try.underlying57] at hval
    exact hval.2.2.2.1
  have hc : v.cells.toList = [v] := by
    unfold Cell.okWide at hval
    rw [Try.underlying57] at hval
    cases v <;> first | rfl | (simp [Cell.ok, Try.underlying57] at hval)
  rw [hc] at h
  obtain ⟨x0, w0, l0, r0⟩ := trod_row Try.underlying57 kcE5 clE5 (by decide) h sp
  obtain ⟨ws, e, hl, hb⟩ := bytes_of w0
  rw [e] at r0
  exact ⟨ws, hb, by omega, r0⟩

set_option maxRecDepth 100000 in
theorem lifted (os : Os) (started : os.Started) (H : Type) (enc : TypeId × Value → H) :
    ReturnsInHanded {} Try.checked os 6 .any (Rows.railTrueSpec.pre6 enc Try.prog Try.f6 Rows.railTrueRow.domain false) (Rows.railTrueSpec.post enc Try.prog Try.f6 false true false false) := by
  refine returnsInHanded_of_change (C := Try.checked) own' started (by kernel_rfl) Try.func6
    (ChangeSpec.witness6 (enc := enc) (C := Try.checked) false ⟨#[], #[.agg #[.slice none 0 0, .slice none 0 0, .slice none 0 0, .int .i64 0, .int .i64 0, .int .i64 0, .int .i64 0, .int .i64 0, .slice none 0 0, .int .i64 0], .int .u16 0, .slice none 0 0, .int .u8 0, .int .u8 0, .int .u8 0], []⟩ 8 (by kernel_rfl) (by kernel_rfl) (by kernel_rfl) (by kernel_rfl)) ?_
  intro W base args ds gs before hval0 hW _ _
  have hval : ∀ (j : Nat) t v, Try.f6.params[j]? = some t → args[j]? = some v → Value.okWide Try.prog W .any base t v := hval0
  have hW' := hW
  obtain ⟨p, q, hA0, hV, rfl, _, _⟩ := hW
  have hA : DataW.TrodAll enc Try.prog W 0 (fun _ => true) true Try.f6.params.toList args.toList ds p := hA0
  rw [Try.params6] at hA hval
  obtain ⟨v0, vs0, d0, ds0, p0, q0, hargs, rfl, rfl, h0, r0⟩ := trodAll_cons hA
  obtain ⟨v1, vs1, d1, ds1, p1, q1, rfl, rfl, rfl, h1, r1⟩ := trodAll_cons r0
  obtain ⟨v2, vs2, d2, ds2, p2, q2, rfl, rfl, rfl, h2, r2⟩ := trodAll_cons r1
  obtain ⟨v3, vs3, d3, ds3, p3, q3, rfl, rfl, rfl, h3, r3⟩ := trodAll_cons r2
  obtain ⟨v4, vs4, d4, ds4, p4, q4, rfl, rfl, rfl, h4, r4⟩ := trodAll_cons r3
  obtain ⟨v5, vs5, d5, ds5, p5, q5, rfl, rfl, rfl, h5, r5⟩ := trodAll_cons r4
  obtain ⟨rfl, rfl, rfl⟩ := trodAll_nil r5
  obtain rfl : args = #[v0, v1, v2, v3, v4, v5] := by cases args; simp_all
  obtain ⟨rfl, rfl⟩ := trodVars_none hV
  obtain ⟨t, hF, rT⟩ := open_rail (hval 0 28 v0 rfl rfl) h0
  obtain ⟨i1, rfl, rfl, rfl, wi1⟩ := open_int Try.underlying56 (hval 1 56 v1 rfl rfl) h1
  obtain ⟨w1, rfl, hw1⟩ := u16_nat wi1
  obtain ⟨ws, hws, hl, rW⟩ := open_b8 (hval 2 57 v2 rfl rfl) h2
  obtain ⟨i3, rfl, rfl, rfl, wi3⟩ := open_int Try.underlying5 (hval 3 5 v3 rfl rfl) h3
  obtain ⟨w3, rfl, hw3⟩ := u8_nat wi3
  obtain ⟨i4, rfl, rfl, rfl, wi4⟩ := open_int Try.underlying5 (hval 4 5 v4 rfl rfl) h4
  obtain ⟨w4, rfl, hw4⟩ := u8_nat wi4
  obtain ⟨i5, rfl, rfl, rfl, wi5⟩ := open_int Try.underlying5 (hval 5 5 v5 rfl rfl) h5
  obtain ⟨w5, rfl, hw5⟩ := u8_nat wi5
  refine law_calls (tb := 4) (argsT := [tRa t, .lit (.int .u16 w1), tB8 ws, .lit (.int .u8 w3), .lit (.int .u8 w4), .lit (.int .u8 w5)]) laidOut' mapsRowed' fullRows (by rw [Try.params6]; decide +kernel) rfl rfl (by kernel_rfl) Try.underlying4 hW' ?_ (GlobOK.none (by kernel_rfl)) (RailTrue_ok t hF.lens w1 hw1 ws hws (by unfold maxLen at hl; omega) w3 hw3 w4 hw4 w5 hw5)
  unfold RepTs
  refine ⟨_, [.int .u16 w1, v2, .int .u8 w3, .int .u8 w4, .int .u8 w5], rfl, rT, ?_⟩
  unfold RepTs
  refine ⟨_, [v2, .int .u8 w3, .int .u8 w4, .int .u8 w5], rfl, by unfold RepT; rfl, ?_⟩
  unfold RepTs
  refine ⟨_, [.int .u8 w3, .int .u8 w4, .int .u8 w5], rfl, rW, ?_⟩
  unfold RepTs
  refine ⟨_, [.int .u8 w4, .int .u8 w5], rfl, by unfold RepT; rfl, ?_⟩
  unfold RepTs
  refine ⟨_, [.int .u8 w5], rfl, by unfold RepT; rfl, ?_⟩
  unfold RepTs
  refine ⟨_, [], rfl, by unfold RepT; rfl, ?_⟩
  unfold RepTs
  rfl

theorem RailTrue_said : Rows.RailTrueSaid :=
  OpenClaim.holds_of_wide 6 Try.f6 rfl rfl rfl rfl rfl rfl rfl ⟨rfl, rfl, rfl, rfl, rfl⟩ rfl rfl rfl rfl rfl (by kernel_rfl) Try.func6 (by kernel_rfl)
    (of_decide_eq_true (by kernel_rfl)) (by unfold Func.isWrapper; first | (rw [if_pos (by decide +kernel)]; kernel_rfl) | (rw [if_neg (by decide +kernel)]; exact ⟨rfl, rfl⟩))
    (fun os started H enc _ => lifted os started H enc)
end Go.Proofs.Ytcpkkjbkbdmopaa
