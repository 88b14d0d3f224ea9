/- Proved here: laws that the statements need (TwO). No conditions but those that each law states. -/
import Derived.Test.YticdacdflemoiaaLB
import Derived.Test.YticdacdflemoiaaFK
import Derived.Test.YticdacdflemoiaaRows

set_option linter.unusedSimpArgs false
set_option linter.unusedVariables false

/- What is handed in: towels as trees. -/
namespace Go.Proofs.Yticdacdflemoiaa
open Go Go.Ab Go.ChangeShapes Go.WideShapes Go.ChangeAt Go.RowKit

theorem own' : ownKnob Try.prog.godebug = none := by kernel_rfl
theorem laidOut' : laidOutB Try.prog = true := by kernel_rfl
theorem mapsRowed' : mapsRowed Try.prog = true := by kernel_rfl
theorem fullRows : ((List.range Try.prog.types.size).all fun t => match Try.prog.underlying t with | some (.slice e) => decide (0 < Try.prog.cellsOf e) | _ => true) = true := by kernel_rfl

abbrev kd2 : Kinds := [some .i64, some .i64]
abbrev kd6 : Kinds := [some .i64, some .i64, some .i64, some .i64, some .i64, some .i64]
theorem kc29 : kcells Try.prog 20 29 = some kd2 := by kernel_rfl
theorem kc47 : kcells Try.prog 20 47 = some kd6 := by kernel_rfl
theorem cl29 : kd2.length = Try.prog.cellsOf 29 := by kernel_rfl
theorem cl47 : kd6.length = Try.prog.cellsOf 47 := by kernel_rfl
theorem cl25 : Try.prog.cellsOf 25 = 3 := by kernel_rfl
theorem cl22 : Try.prog.cellsOf 22 = 1 := by kernel_rfl
theorem cl23 : Try.prog.cellsOf 23 = 1 := by kernel_rfl
theorem wd29 : isWide Try.prog 29 = true := by kernel_rfl
theorem wd47 : isWide Try.prog 47 = true := by kernel_rfl

/-- Numbers that are ones of a machine. -/
def i64 (n : Int) : Prop := -9223372036854775808 ≤ n ∧ n ≤ 9223372036854775807
structure Tw.Fits (t : Tw) : Prop where
  nb : t.bs.length ≤ maxLen
  nh : t.hs.length ≤ maxLen
  nv : t.vs.length ≤ maxLen
  hs : ∀ s ∈ t.hs, i64 s.1 ∧ i64 s.2
  vs : ∀ s ∈ t.vs, i64 s.1 ∧ i64 s.2
  bs : ∀ b ∈ t.bs, i64 b.hut ∧ i64 b.half ∧ i64 b.ll ∧ i64 b.lh ∧ i64 b.bl ∧ i64 b.bh

theorem wf_i64 {n : Int} (h : (Lit.int .i64 n).wf = true) : i64 n := by
  simpa [Lit.wf, IntKind.min, IntKind.max, IntKind.signed, IntKind.bits, i64] using h

set_option maxRecDepth 100000 in
theorem spans_of {xs : List (List Int)} (h : ∀ y ∈ xs, KWf kd2 y) : ∃ l : List (Int × Int), xs.map (elT Try.prog 29 kd2) = l.map tS ∧ l.length = xs.length ∧ ∀ s ∈ l, i64 s.1 ∧ i64 s.2 := by
  induction xs with
  | nil => exact ⟨[], rfl, rfl, by simp⟩
  | cons y xs ih =>
    obtain ⟨l, e, hl, hb⟩ := ih fun z hz => h z (by simp [hz])
    have hy := h y (by simp)
    match y, hy with
    | [a, b], hy =>
      refine ⟨(a, b) :: l, ?_, by simp [hl], fun s hs => ?_⟩
      · rw [List.map_cons, List.map_cons, e]
        congr 1
      · rcases List.mem_cons.1 hs with rfl | hs
        · exact ⟨wf_i64 hy.1, wf_i64 hy.2.1⟩
        · exact hb s hs

set_option maxRecDepth 100000 in
theorem bathers_of {xs : List (List Int)} (h : ∀ y ∈ xs, KWf kd6 y) : ∃ l : List B, xs.map (elT Try.prog 47 kd6) = l.map tB ∧ l.length = xs.length ∧ ∀ b ∈ l, i64 b.hut ∧ i64 b.half ∧ i64 b.ll ∧ i64 b.lh ∧ i64 b.bl ∧ i64 b.bh := by
  induction xs with
  | nil => exact ⟨[], rfl, rfl, by simp⟩
  | cons y xs ih =>
    obtain ⟨l, e, hl, hb⟩ := ih fun z hz => h z (by simp [hz])
    have hy := h y (by simp)
    match y, hy with
    | [a, b, c, d, e', f], hy =>
      refine ⟨⟨a, b, c, d, e', f⟩ :: l, ?_, by simp [hl], fun s hs => ?_⟩
      · rw [List.map_cons, List.map_cons, e]
        congr 1
      · rcases List.mem_cons.1 hs with rfl | hs
        · exact ⟨wf_i64 hy.1, wf_i64 hy.2.1, wf_i64 hy.2.2.1, wf_i64 hy.2.2.2.1, wf_i64 hy.2.2.2.2.1, wf_i64 hy.2.2.2.2.2.1⟩
        · exact hb s hs

set_option maxRecDepth 100000 in
theorem open_towels {H : Type} {enc : TypeId × Value → H} {W : World} {base : Nat} {v : Value} {d : DataW H} {p : List MemPlace} (hval : Value.okWide Try.prog W .any base 25 v) (h : DataW.Trod enc Try.prog W 0 (fun _ => true) true 25 v d p) :
    ∃ t : Tw, t.Fits ∧ RepT (Ab.hp (· < W.heap.size) W) (.agg (tw3 t)) v := by
  unfold Value.okWide at hval
  rw [Try.underlying25] at hval
  obtain ⟨cs, rfl, hsz, hrow⟩ := hval
  obtain ⟨fuel, h⟩ := h
  have hsz3 : cs.size = 3 := by rw [hsz, cl25]
  obtain ⟨c0, c1, c2, rfl⟩ : ∃ c0 c1 c2, cs = #[c0, c1, c2] := by
    refine ⟨cs[0], cs[1], cs[2], ?_⟩
    apply Array.ext
    · simp [hsz3]
    · intro i h1 h2
      have : i = 0 ∨ i = 1 ∨ i = 2 := by omega
      rcases this with rfl | rfl | rfl <;> rfl
  -- where empty slices point to
  have hct : Try.prog.cellTypes Try.prog.depth 25 = some [22, 23, 23] := by kernel_rfl
  obtain ⟨ts, hts, _, hcells⟩ := hrow
  rw [hct] at hts
  cases hts
  have sp : ∀ (i : Nat) (c : Value) (u e : TypeId), #[c0, c1, c2][i]? = some c → [22, 23, 23][i % 3]? = some u → Try.prog.underlying u = some (.slice e) → ∀ a n k, c = .slice (some a) n k → a.spot = none := by
    intro i c u e h1 h2 h3 a n k hc
    obtain ⟨u', h4, h5⟩ := hcells i c h1
    have : u' = u := Option.some.inj (h4.symm.trans h2)
    subst this
    subst hc
    unfold Cell.okWide at h5
    rw [h3] at h5
    simp only [Cell.ok, h3] at h5
    exact h5.2.2.2.1
  have h' : DataW.trod enc Try.prog W 0 (fun _ => true) true fuel 25 [c0, c1, c2] = some (d, p) := h
  obtain ⟨n, hm⟩ := trod_fields Try.underlying25 h'
  obtain ⟨y0, h0⟩ := hm 0 _ rfl
  obtain ⟨y1, h1⟩ := hm 1 _ rfl
  obtain ⟨y2, h2⟩ := hm 2 _ rfl
  rw [cl22] at h0
  rw [cl23] at h1 h2
  obtain ⟨x0, w0, l0, r0⟩ := trod_row Try.underlying22 kc47 cl47 (by decide) h0 (sp 0 c0 22 47 rfl rfl Try.underlying22)
  obtain ⟨x1, w1, l1, r1⟩ := trod_row Try.underlying23 kc29 cl29 (by decide) h1 (sp 1 c1 23 29 rfl rfl Try.underlying23)
  obtain ⟨x2, w2, l2, r2⟩ := trod_row Try.underlying23 kc29 cl29 (by decide) h2 (sp 2 c2 23 29 rfl rfl Try.underlying23)
  obtain ⟨bs, eb, lb, bb⟩ := bathers_of w0
  obtain ⟨hs, eh, lh, bh⟩ := spans_of w1
  obtain ⟨vs, ev, lv, bv⟩ := spans_of w2
  rw [eb] at r0
  rw [eh] at r1
  rw [ev] at r2
  refine ⟨⟨bs, hs, vs⟩, ⟨by simp only; omega, by simp only; omega, by simp only; omega, bh, bv, bb⟩, ?_⟩
  have one : ∀ {es : Nat} {xs : List T} {c : Value} {h : Ab.Hp}, RepT h (.slice es xs) c → Ab.One c := fun r => by
    unfold RepT at r
    obtain ⟨a, n, c, rfl, _⟩ := r
    rfl
  unfold RepT
  refine ⟨[c0, c1, c2], rfl, ?_, fun u hu => ?_⟩
  · unfold tw3 RepTs
    refine ⟨c0, [c1, c2], rfl, r0, ?_⟩
    unfold RepTs
    refine ⟨c1, [c2], rfl, r1, ?_⟩
    unfold RepTs
    refine ⟨c2, [], rfl, r2, ?_⟩
    unfold RepTs
    rfl
  · simp only [List.mem_cons, List.not_mem_nil, or_false] at hu
    rcases hu with rfl | rfl | rfl
    · exact one r0
    · exact one r1
    · exact one r2
end Go.Proofs.Yticdacdflemoiaa
