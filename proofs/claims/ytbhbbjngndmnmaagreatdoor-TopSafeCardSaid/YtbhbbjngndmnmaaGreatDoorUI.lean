/- Proved here: laws that the statements need (TpV0). No conditions but those that each law states. -/
import Derived.Test.YtbhbbjngndmnmaaGreatDoorUH
import Derived.Test.YtbhbbjngndmnmaaGreatDoorFO
import Derived.Test.YtbhbbjngndmnmaaGreatDoorRows
import Derived.Lib.LaidTab
import Derived.Stop.LaidErr
import Derived.LaidMore
import Derived.Stop.Joined
import Derived.MakeChecks
set_option linter.unusedSimpArgs false
set_option linter.unusedVariables false
namespace Go.Proofs.YtbhbbjngndmnmaaGreatDoor.S
open Go Go.Ab Go.ChangeShapes Go.WideShapes Go.ChangeAt Go.RowKit
abbrev kdS : Kinds := [some .i64, some .i64]
abbrev kdH : Kinds := [some .i64, some .i64, some .i64]
theorem kc44 : kcells Tryz.prog 20 44 = some kdS := by kernel_rfl
theorem kc68 : kcells Tryz.prog 20 68 = some kdH := by kernel_rfl
theorem cl44 : kdS.length = Tryz.prog.cellsOf 44 := by kernel_rfl
theorem cl68 : kdH.length = Tryz.prog.cellsOf 68 := by kernel_rfl
theorem cl25 : Tryz.prog.cellsOf 25 = 5 := by kernel_rfl
theorem cl3 : Tryz.prog.cellsOf 3 = 1 := by kernel_rfl
theorem cl22 : Tryz.prog.cellsOf 22 = 1 := by kernel_rfl
theorem cl23 : Tryz.prog.cellsOf 23 = 1 := by kernel_rfl
structure Su.Fits (s : Su) : Prop where
  nw : s.water.length ≤ maxLen
  nv : s.waves.length ≤ maxLen
  nh : s.huts.length ≤ maxLen
theorem Su.Fits.lens {s : Su} (h : s.Fits) : Lens s := by
  have h1 := h.nw
  have h2 := h.nv
  have h3 := h.nh
  unfold maxLen at h1 h2 h3
  exact ⟨by omega, by omega, by omega⟩
set_option maxRecDepth 100000 in
theorem huts_of {xs : List (List Int)} (h : ∀ y ∈ xs, KWf kdH y) : ∃ l : List Hu, xs.map (elT Tryz.prog 68 kdH) = l.map tHu ∧ l.length = xs.length := by
  induction xs with
  | nil => exact ⟨[], rfl, rfl⟩
  | cons y xs ih =>
    obtain ⟨l, e, hl⟩ := ih fun z hz => h z (by simp [hz])
    have hy := h y (by simp)
    match y, hy with
    | [a, b, c], hy =>
      refine ⟨⟨a, b, c⟩ :: l, ?_, by simp [hl]⟩
      rw [List.map_cons, List.map_cons, e]
      congr 1
set_option maxRecDepth 100000 in
theorem spans_of {xs : List (List Int)} (h : ∀ y ∈ xs, KWf kdS y) : ∃ l : List Sp, xs.map (elT Tryz.prog 44 kdS) = l.map tSp ∧ l.length = xs.length := by
  induction xs with
  | nil => exact ⟨[], rfl, rfl⟩
  | cons y xs ih =>
    obtain ⟨l, e, hl⟩ := ih fun z hz => h z (by simp [hz])
    have hy := h y (by simp)
    match y, hy with
    | [a, b], hy =>
      refine ⟨(a, b) :: l, ?_, by simp [hl]⟩
      rw [List.map_cons, List.map_cons, e]
      congr 1
set_option maxRecDepth 100000 in
theorem open_surf {H : Type} {enc : TypeId × Value → H} {W : World} {base : Nat} {v : Value} {d : DataW H} {p : List MemPlace} (hval : Value.okWide Tryz.prog W .any base 25 v) (h : DataW.Trod enc Tryz.prog W 0 (fun _ => true) true 25 v d p) :
    ∃ s : Su, s.Fits ∧ RepT (Ab.hp (· < W.heap.size) W) (.agg (su5 s)) v := by
  unfold Value.okWide at hval
  rw [Tryz.underlying25] at hval
  obtain ⟨cs, rfl, hsz, hrow⟩ := hval
  obtain ⟨fuel, h⟩ := h
  have hsz3 : cs.size = 5 := by rw [hsz, cl25]
  obtain ⟨c0, c1, c2, c3, c4, rfl⟩ : ∃ c0 c1 c2 c3 c4, cs = #[c0, c1, c2, c3, c4] := by
    refine ⟨cs[0], cs[1], cs[2], cs[3], cs[4], ?_⟩
    apply Array.ext
    · simp [hsz3]
    · intro i h1 h2
      have : i = 0 ∨ i = 1 ∨ i = 2 ∨ i = 3 ∨ i = 4 := by omega
      rcases this with rfl | rfl | rfl | rfl | rfl <;> rfl
  -- where empty slices point to
  have hct : Tryz.prog.cellTypes Tryz.prog.depth 25 = some [3, 3, 22, 22, 23] := by kernel_rfl
  obtain ⟨ts, hts, _, hcells⟩ := hrow
  rw [hct] at hts
  cases hts
  have sp : ∀ (i : Nat) (c : Value) (u e : TypeId), #[c0, c1, c2, c3, c4][i]? = some c → [3, 3, 22, 22, 23][i % 5]? = some u → Tryz.prog.underlying u = some (.slice e) → ∀ a n k, c = .slice (some a) n k → a.spot = none := by
    intro i c u e h1 h2 h3 a n k hc
    obtain ⟨u', h4, h5⟩ := hcells i c h1
    have : u' = u := Option.some.inj (h4.symm.trans h2)
    subst this
    subst hc
    unfold Cell.okWide at h5
    rw [h3] at h5
    simp only [Cell.ok, h3] at h5
    exact h5.2.2.2.1
  have h' : DataW.trod enc Tryz.prog W 0 (fun _ => true) true fuel 25 [c0, c1, c2, c3, c4] = some (d, p) := h
  obtain ⟨n, hm⟩ := trod_fields Tryz.underlying25 h'
  obtain ⟨y0, h0⟩ := hm 0 _ rfl
  obtain ⟨y1, h1⟩ := hm 1 _ rfl
  obtain ⟨y2, h2⟩ := hm 2 _ rfl
  obtain ⟨y3, h3⟩ := hm 3 _ rfl
  obtain ⟨y4, h4⟩ := hm 4 _ rfl
  rw [cl3] at h0 h1
  rw [cl22] at h2 h3
  rw [cl23] at h4
  obtain ⟨z0, e0, -, f0⟩ := DataW.trod_int Tryz.underlying3 h0
  obtain ⟨z1, e1, -, f1⟩ := DataW.trod_int Tryz.underlying3 h1
  have e0' : c0 = .int .i64 z0 := by simpa using e0
  have e1' : c1 = .int .i64 z1 := by simpa using e1
  subst e0' e1'
  obtain ⟨x2, w2, l2, r2⟩ := trod_row Tryz.underlying22 kc44 cl44 (by decide) h2 (sp 2 c2 22 44 rfl rfl Tryz.underlying22)
  obtain ⟨x3, w3, l3, r3⟩ := trod_row Tryz.underlying22 kc44 cl44 (by decide) h3 (sp 3 c3 22 44 rfl rfl Tryz.underlying22)
  obtain ⟨x4, w4, l4, r4⟩ := trod_row Tryz.underlying23 kc68 cl68 (by decide) h4 (sp 4 c4 23 68 rfl rfl Tryz.underlying23)
  obtain ⟨wa, ea, la⟩ := spans_of w2
  obtain ⟨wv, ev, lv⟩ := spans_of w3
  obtain ⟨hu, eh, lh⟩ := huts_of w4
  rw [ea] at r2
  rw [ev] at r3
  rw [eh] at r4
  refine ⟨⟨z0, z1, wa, wv, hu⟩, ⟨by simp only; omega, by simp only; omega, by simp only; omega⟩, ?_⟩
  have one : ∀ {es : Nat} {xs : List T} {c : Value} {h : Ab.Hp}, RepT h (.slice es xs) c → Ab.One c := fun r => by
    unfold RepT at r
    obtain ⟨a, n, c, rfl, _⟩ := r
    rfl
  unfold RepT
  refine ⟨[.int .i64 z0, .int .i64 z1, c2, c3, c4], rfl, ?_, fun u hu => ?_⟩
  · unfold su5 RepTs
    refine ⟨_, _, rfl, by unfold RepT; rfl, ?_⟩
    unfold RepTs
    refine ⟨_, _, rfl, by unfold RepT; rfl, ?_⟩
    unfold RepTs
    refine ⟨c2, [c3, c4], rfl, r2, ?_⟩
    unfold RepTs
    refine ⟨c3, [c4], rfl, r3, ?_⟩
    unfold RepTs
    refine ⟨c4, [], rfl, r4, ?_⟩
    unfold RepTs
    rfl
  · simp only [List.mem_cons, List.not_mem_nil, or_false] at hu
    rcases hu with rfl | rfl | rfl | rfl | rfl
    · rfl
    · rfl
    · exact one r2
    · exact one r3
    · exact one r4
end Go.Proofs.YtbhbbjngndmnmaaGreatDoor.S
namespace Go.Proofs.YtbhbbjngndmnmaaGreatDoor.F
open Go Go.Ab Go.ChangeShapes Go.WideShapes Go.ChangeAt Go.RowKit
abbrev kdS : Kinds := [some .i64, none]
abbrev kdH : Kinds := [some .i64, some .i64, some .i64]
theorem kc51 : kcells Tryz.prog 20 51 = some kdS := by kernel_rfl
theorem kc46 : kcells Tryz.prog 20 46 = some kdH := by kernel_rfl
theorem cl51 : kdS.length = Tryz.prog.cellsOf 51 := by kernel_rfl
theorem cl46 : kdH.length = Tryz.prog.cellsOf 46 := by kernel_rfl
theorem cl29 : Tryz.prog.cellsOf 29 = 5 := by kernel_rfl
theorem cl3 : Tryz.prog.cellsOf 3 = 1 := by kernel_rfl
theorem cl26 : Tryz.prog.cellsOf 26 = 1 := by kernel_rfl
theorem cl27 : Tryz.prog.cellsOf 27 = 1 := by kernel_rfl
def i64 (n : Int) : Prop := -9223372036854775808 ≤ n ∧ n ≤ 9223372036854775807
structure Fl.Fits (f : Fl) : Prop where
  nh : f.hs.length ≤ maxLen
  ns : f.ss.length ≤ maxLen
  low : i64 f.low
  high : i64 f.high
  quiet : i64 f.quiet
  hs : ∀ h ∈ f.hs, i64 h.lo ∧ i64 h.hi ∧ i64 h.th
  ss : ∀ s ∈ f.ss, i64 s.h
theorem Fl.Fits.lens {f : Fl} (h : f.Fits) : f.hs.length < 9223372036854775808 ∧ f.ss.length < 9223372036854775808 := by
  have h1 := h.nh
  have h2 := h.ns
  unfold maxLen at h1 h2
  exact ⟨by omega, by omega⟩
theorem wf_i64 {n : Int} (h : (Lit.int .i64 n).wf = true) : i64 n := by
  simpa [Lit.wf, IntKind.min, IntKind.max, IntKind.signed, IntKind.bits, i64] using h
set_option maxRecDepth 100000 in
theorem hours_of {xs : List (List Int)} (h : ∀ y ∈ xs, KWf kdH y) : ∃ l : List Hr, xs.map (elT Tryz.prog 46 kdH) = l.map tHr ∧ l.length = xs.length ∧ ∀ s ∈ l, i64 s.lo ∧ i64 s.hi ∧ i64 s.th := by
  induction xs with
  | nil => exact ⟨[], rfl, rfl, by simp⟩
  | cons y xs ih =>
    obtain ⟨l, e, hl, hb⟩ := ih fun z hz => h z (by simp [hz])
    have hy := h y (by simp)
    match y, hy with
    | [a, b, c], hy =>
      refine ⟨⟨a, b, c⟩ :: l, ?_, by simp [hl], fun s hs => ?_⟩
      · rw [List.map_cons, List.map_cons, e]
        congr 1
      · rcases List.mem_cons.1 hs with rfl | hs
        · exact ⟨wf_i64 hy.1, wf_i64 hy.2.1, wf_i64 hy.2.2.1⟩
        · exact hb s hs
set_option maxRecDepth 100000 in
theorem seens_of {xs : List (List Int)} (h : ∀ y ∈ xs, KWf kdS y) : ∃ l : List Sn, xs.map (elT Tryz.prog 51 kdS) = l.map tSn ∧ l.length = xs.length ∧ ∀ s ∈ l, i64 s.h := by
  induction xs with
  | nil => exact ⟨[], rfl, rfl, by simp⟩
  | cons y xs ih =>
    obtain ⟨l, e, hl, hb⟩ := ih fun z hz => h z (by simp [hz])
    have hy := h y (by simp)
    match y, hy with
    | [a, b], hy =>
      rcases hy.2.1 with rfl | rfl
      · refine ⟨⟨a, false⟩ :: l, ?_, by simp [hl], fun s hs => ?_⟩
        · rw [List.map_cons, List.map_cons, e]
          congr 1
        · rcases List.mem_cons.1 hs with rfl | hs
          · exact wf_i64 hy.1
          · exact hb s hs
      · refine ⟨⟨a, true⟩ :: l, ?_, by simp [hl], fun s hs => ?_⟩
        · rw [List.map_cons, List.map_cons, e]
          congr 1
        · rcases List.mem_cons.1 hs with rfl | hs
          · exact wf_i64 hy.1
          · exact hb s hs
set_option maxRecDepth 100000 in
theorem open_flag {H : Type} {enc : TypeId × Value → H} {W : World} {base : Nat} {v : Value} {d : DataW H} {p : List MemPlace} (hval : Value.okWide Tryz.prog W .any base 29 v) (h : DataW.Trod enc Tryz.prog W 0 (fun _ => true) true 29 v d p) :
    ∃ f : Fl, f.Fits ∧ RepT (Ab.hp (· < W.heap.size) W) (.agg (fl5 f)) v := by
  unfold Value.okWide at hval
  rw [Tryz.underlying29] at hval
  obtain ⟨cs, rfl, hsz, hrow⟩ := hval
  obtain ⟨fuel, h⟩ := h
  have hsz3 : cs.size = 5 := by rw [hsz, cl29]
  obtain ⟨c0, c1, c2, c3, c4, rfl⟩ : ∃ c0 c1 c2 c3 c4, cs = #[c0, c1, c2, c3, c4] := by
    refine ⟨cs[0], cs[1], cs[2], cs[3], cs[4], ?_⟩
    apply Array.ext
    · simp [hsz3]
    · intro i h1 h2
      have : i = 0 ∨ i = 1 ∨ i = 2 ∨ i = 3 ∨ i = 4 := by omega
      rcases this with rfl | rfl | rfl | rfl | rfl <;> rfl
  -- where empty slices point to
  have hct : Tryz.prog.cellTypes Tryz.prog.depth 29 = some [3, 3, 3, 26, 27] := by kernel_rfl
  obtain ⟨ts, hts, _, hcells⟩ := hrow
  rw [hct] at hts
  cases hts
  have sp : ∀ (i : Nat) (c : Value) (u e : TypeId), #[c0, c1, c2, c3, c4][i]? = some c → [3, 3, 3, 26, 27][i % 5]? = some u → Tryz.prog.underlying u = some (.slice e) → ∀ a n k, c = .slice (some a) n k → a.spot = none := by
    intro i c u e h1 h2 h3 a n k hc
    obtain ⟨u', h4, h5⟩ := hcells i c h1
    have : u' = u := Option.some.inj (h4.symm.trans h2)
    subst this
    subst hc
    unfold Cell.okWide at h5
    rw [h3] at h5
    simp only [Cell.ok, h3] at h5
    exact h5.2.2.2.1
  have h' : DataW.trod enc Tryz.prog W 0 (fun _ => true) true fuel 29 [c0, c1, c2, c3, c4] = some (d, p) := h
  obtain ⟨n, hm⟩ := trod_fields Tryz.underlying29 h'
  obtain ⟨y0, h0⟩ := hm 0 _ rfl
  obtain ⟨y1, h1⟩ := hm 1 _ rfl
  obtain ⟨y2, h2⟩ := hm 2 _ rfl
  obtain ⟨y3, h3⟩ := hm 3 _ rfl
  obtain ⟨y4, h4⟩ := hm 4 _ rfl
  rw [cl3] at h0 h1 h2
  rw [cl26] at h3
  rw [cl27] at h4
  obtain ⟨z0, e0, -, f0⟩ := DataW.trod_int Tryz.underlying3 h0
  obtain ⟨z1, e1, -, f1⟩ := DataW.trod_int Tryz.underlying3 h1
  obtain ⟨z2, e2, -, f2⟩ := DataW.trod_int Tryz.underlying3 h2
  have e0' : c0 = .int .i64 z0 := by simpa using e0
  have e1' : c1 = .int .i64 z1 := by simpa using e1
  have e2' : c2 = .int .i64 z2 := by simpa using e2
  subst e0' e1' e2'
  obtain ⟨x3, w3, l3, r3⟩ := trod_row Tryz.underlying26 kc46 cl46 (by decide) h3 (sp 3 c3 26 46 rfl rfl Tryz.underlying26)
  obtain ⟨x4, w4, l4, r4⟩ := trod_row Tryz.underlying27 kc51 cl51 (by decide) h4 (sp 4 c4 27 51 rfl rfl Tryz.underlying27)
  obtain ⟨hs, eh, lh, bh⟩ := hours_of w3
  obtain ⟨ss, es, ls, bs⟩ := seens_of w4
  rw [eh] at r3
  rw [es] at r4
  refine ⟨⟨z0, z1, z2, hs, ss⟩, ⟨by simp only; omega, by simp only; omega, wf_i64 f0, wf_i64 f1, wf_i64 f2, bh, bs⟩, ?_⟩
  have one : ∀ {es : Nat} {xs : List T} {c : Value} {h : Ab.Hp}, RepT h (.slice es xs) c → Ab.One c := fun r => by
    unfold RepT at r
    obtain ⟨a, n, c, rfl, _⟩ := r
    rfl
  unfold RepT
  refine ⟨[.int .i64 z0, .int .i64 z1, .int .i64 z2, c3, c4], rfl, ?_, fun u hu => ?_⟩
  · unfold fl5 RepTs
    refine ⟨_, _, rfl, by unfold RepT; rfl, ?_⟩
    unfold RepTs
    refine ⟨_, _, rfl, by unfold RepT; rfl, ?_⟩
    unfold RepTs
    refine ⟨_, _, rfl, by unfold RepT; rfl, ?_⟩
    unfold RepTs
    refine ⟨c3, [c4], rfl, r3, ?_⟩
    unfold RepTs
    refine ⟨c4, [], rfl, r4, ?_⟩
    unfold RepTs
    rfl
  · simp only [List.mem_cons, List.not_mem_nil, or_false] at hu
    rcases hu with rfl | rfl | rfl | rfl | rfl
    · rfl
    · rfl
    · rfl
    · exact one r3
    · exact one r4
end Go.Proofs.YtbhbbjngndmnmaaGreatDoor.F
namespace Go.Proofs.YtbhbbjngndmnmaaGreatDoor.B
open Go Go.Ab Go.ChangeShapes Go.WideShapes Go.ChangeAt Go.RowKit
abbrev kdB : Kinds := [some .i64, some .i64, some .i64, some .i64, some .i64]
theorem kc53 : kcells Tryz.prog 20 53 = some kdB := by kernel_rfl
theorem cl53 : kdB.length = Tryz.prog.cellsOf 53 := by kernel_rfl
theorem cl53' : Tryz.prog.cellsOf 53 = 5 := by kernel_rfl
theorem cl32 : Tryz.prog.cellsOf 32 = 5 := by kernel_rfl
theorem cl3 : Tryz.prog.cellsOf 3 = 1 := by kernel_rfl
theorem cl30 : Tryz.prog.cellsOf 30 = 1 := by kernel_rfl
theorem cl35 : Tryz.prog.cellsOf 35 = 1 := by kernel_rfl
structure Bo.Fits (b : Bo) : Prop where
  n : b.seen.length ≤ maxLen
  l : ∀ x ∈ b.seen, x.length ≤ maxLen
theorem Bo.Fits.lens {b : Bo} (h : b.Fits) : Lens b := by
  have h1 := h.n
  have h2 := h.l
  unfold maxLen at h1 h2
  exact ⟨by omega, fun x hx => by have := h2 x hx; omega⟩
set_option maxRecDepth 100000 in
theorem sis_of {xs : List T} (h : ∀ y ∈ xs, ∃ ns, KWf kdB ns ∧ y = elT Tryz.prog 53 kdB ns) : ∃ l : List Si, xs = l.map tSi ∧ l.length = xs.length := by
  induction xs with
  | nil => exact ⟨[], rfl, rfl⟩
  | cons y xs ih =>
    obtain ⟨l, e, hl⟩ := ih fun z hz => h z (by simp [hz])
    obtain ⟨ns, hy, rfl⟩ := h y (by simp)
    match ns, hy with
    | [a, b, c, d, f], hy =>
      refine ⟨⟨a, b, c, d, f⟩ :: l, ?_, by simp [hl]⟩
      rw [List.map_cons, e]
      congr 1
theorem seen_of {xs : List T} (h : ∀ y ∈ xs, ∃ ys : List T, (∀ z ∈ ys, ∃ ns, KWf kdB ns ∧ z = elT Tryz.prog 53 kdB ns) ∧ ys.length ≤ maxLen ∧ y = .slice (Tryz.prog.cellsOf 53) ys) : ∃ l : List (List Si), xs = l.map tSis ∧ l.length = xs.length ∧ ∀ x ∈ l, x.length ≤ maxLen := by
  induction xs with
  | nil => exact ⟨[], rfl, rfl, by simp⟩
  | cons y xs ih =>
    obtain ⟨l, e, hl, hm⟩ := ih fun z hz => h z (by simp [hz])
    obtain ⟨ys, hy, hn, rfl⟩ := h y (by simp)
    obtain ⟨k, rfl, hk⟩ := sis_of hy
    refine ⟨k :: l, ?_, by simp [hl], fun x hx => ?_⟩
    · rw [List.map_cons, e, cl53']; rfl
    · rcases List.mem_cons.1 hx with rfl | hx
      · omega
      · exact hm x hx
set_option maxRecDepth 100000 in
theorem open_boat {H : Type} {enc : TypeId × Value → H} {W : World} {base : Nat} {v : Value} {d : DataW H} {p : List MemPlace} (hval : Value.okWide Tryz.prog W .any base 32 v) (h : DataW.Trod enc Tryz.prog W 0 (fun _ => true) true 32 v d p) :
    ∃ b : Bo, b.Fits ∧ RepT (Ab.hp (· < W.heap.size) W) (.agg (bo5 b)) v := by
  unfold Value.okWide at hval
  rw [Tryz.underlying32] at hval
  obtain ⟨cs, rfl, hsz, -⟩ := hval
  obtain ⟨fuel, h⟩ := h
  have hsz3 : cs.size = 5 := by rw [hsz, cl32]
  obtain ⟨c0, c1, c2, c3, c4, rfl⟩ : ∃ c0 c1 c2 c3 c4, cs = #[c0, c1, c2, c3, c4] := by
    refine ⟨cs[0], cs[1], cs[2], cs[3], cs[4], ?_⟩
    apply Array.ext
    · simp [hsz3]
    · intro i h1 h2
      have : i = 0 ∨ i = 1 ∨ i = 2 ∨ i = 3 ∨ i = 4 := by omega
      rcases this with rfl | rfl | rfl | rfl | rfl <;> rfl
  have h' : DataW.trod enc Tryz.prog W 0 (fun _ => true) true fuel 32 [c0, c1, c2, c3, c4] = some (d, p) := h
  obtain ⟨n, hm⟩ := trod_fields Tryz.underlying32 h'
  obtain ⟨y0, h0⟩ := hm 0 _ rfl
  obtain ⟨y1, h1⟩ := hm 1 _ rfl
  obtain ⟨y2, h2⟩ := hm 2 _ rfl
  obtain ⟨y3, h3⟩ := hm 3 _ rfl
  obtain ⟨y4, h4⟩ := hm 4 _ rfl
  rw [cl3] at h0 h1 h2 h3
  rw [cl30] at h4
  obtain ⟨z0, e0, -, f0⟩ := DataW.trod_int Tryz.underlying3 h0
  obtain ⟨z1, e1, -, f1⟩ := DataW.trod_int Tryz.underlying3 h1
  obtain ⟨z2, e2, -, f2⟩ := DataW.trod_int Tryz.underlying3 h2
  obtain ⟨z3, e3, -, f3⟩ := DataW.trod_int Tryz.underlying3 h3
  have e0' : c0 = .int .i64 z0 := by simpa using e0
  have e1' : c1 = .int .i64 z1 := by simpa using e1
  have e2' : c2 = .int .i64 z2 := by simpa using e2
  have e3' : c3 = .int .i64 z3 := by simpa using e3
  subst e0' e1' e2' e3'
  obtain ⟨x4, w4, l4, r4, o4⟩ := trod_row2 Tryz.underlying30 Tryz.underlying35 cl35 kc53 cl53 (by rw [cl53']; decide) h4
  obtain ⟨sn, rfl, ln, lm⟩ := seen_of w4
  refine ⟨⟨z0, z1, z2, z3, sn⟩, ⟨by simp only; omega, lm⟩, ?_⟩
  unfold RepT
  refine ⟨[.int .i64 z0, .int .i64 z1, .int .i64 z2, .int .i64 z3, c4], rfl, ?_, fun u hu => ?_⟩
  · unfold bo5 RepTs
    refine ⟨_, _, rfl, by unfold RepT; rfl, ?_⟩
    unfold RepTs
    refine ⟨_, _, rfl, by unfold RepT; rfl, ?_⟩
    unfold RepTs
    refine ⟨_, _, rfl, by unfold RepT; rfl, ?_⟩
    unfold RepTs
    refine ⟨_, _, rfl, by unfold RepT; rfl, ?_⟩
    unfold RepTs
    refine ⟨c4, [], rfl, r4, ?_⟩
    unfold RepTs
    rfl
  · simp only [List.mem_cons, List.not_mem_nil, or_false] at hu
    rcases hu with rfl | rfl | rfl | rfl | rfl
    · rfl
    · rfl
    · rfl
    · rfl
    · exact o4
end Go.Proofs.YtbhbbjngndmnmaaGreatDoor.B
namespace Go.Proofs.YtbhbbjngndmnmaaGreatDoor
open Go Go.Ab Go.ChangeShapes Go.WideShapes Go.ChangeAt Go.RowKit
theorem own' : ownKnob Tryz.prog.godebug = none := by kernel_rfl
theorem laidOut' : laidOutB Tryz.prog = true := by kernel_rfl
theorem mapsRowed' : mapsRowed Tryz.prog = true := by kernel_rfl
theorem fullRows : ((List.range Tryz.prog.types.size).all fun t => match Tryz.prog.underlying t with | some (.slice e) => decide (0 < Tryz.prog.cellsOf e) | _ => true) = true := by kernel_rfl
theorem u8_nat {n : Int} (h : (Lit.int .u8 n).wf = true) : ∃ w : Nat, n = w ∧ w < 256 := by
  have h1 : 0 ≤ n ∧ n ≤ 255 := by simpa [Lit.wf, IntKind.min, IntKind.max, IntKind.signed, IntKind.bits] using h
  exact ⟨n.toNat, by omega, by omega⟩
theorem kc73 : kcells Tryz.prog 20 73 = some [some .u16] := by kernel_rfl
theorem cl73 : ([some .u16] : Kinds).length = Tryz.prog.cellsOf 73 := by kernel_rfl
theorem kcE5 : kcells Tryz.prog 20 5 = some [some .u8] := by kernel_rfl
theorem clE5 : ([some .u8] : Kinds).length = Tryz.prog.cellsOf 5 := by kernel_rfl
set_option maxRecDepth 100000 in
theorem wd73 : isWide Tryz.prog 73 = false := by kernel_rfl
set_option maxRecDepth 100000 in
theorem wdE5 : isWide Tryz.prog 5 = false := by kernel_rfl
set_option maxRecDepth 100000 in
theorem words_of16 {xs : List (List Int)} (h : ∀ y ∈ xs, KWf [some .u16] y) : ∃ ws : List Nat, xs.map (elT Tryz.prog 73 [some .u16]) = ws.map (fun w : Nat => .lit (.int .u16 w)) ∧ ws.length = xs.length ∧ ∀ w ∈ ws, w < 65536 := by
  induction xs with
  | nil => exact ⟨[], rfl, rfl, by simp⟩
  | cons y xs ih =>
    obtain ⟨l, e, hl, hb⟩ := ih fun z hz => h z (by simp [hz])
    have hy := h y (by simp)
    match y, hy with
    | [a], hy =>
      have ha : 0 ≤ a ∧ a < 65536 := by
        have h1 := hy.1
        simp [Lit.wf, IntKind.min, IntKind.max, IntKind.signed, IntKind.bits] at h1
        omega
      refine ⟨a.toNat :: l, ?_, by simp [hl], fun s hs => ?_⟩
      · rw [List.map_cons, List.map_cons, e]
        congr 1
        unfold elT
        rw [wd73]
        simp only [kc, keyCell, List.headD_cons, Bool.false_eq_true, if_false]
        rw [show ((a.toNat : Nat) : Int) = a by omega]
      · rcases List.mem_cons.1 hs with rfl | hs
        · omega
        · exact hb s hs
set_option maxRecDepth 100000 in
theorem open_by16 {H : Type} {enc : TypeId × Value → H} {W : World} {base : Nat} {v : Value} {d : DataW H} {p : List MemPlace} (hval : Value.okWide Tryz.prog W .any base 33 v) (h : DataW.Trod enc Tryz.prog W 0 (fun _ => true) true 33 v d p) :
    ∃ ws : List Nat, (∀ w ∈ ws, w < 65536) ∧ ws.length ≤ maxLen ∧ RepT (Ab.hp (· < W.heap.size) W) (tBy ws) v := by
  unfold Value.okWide at hval
  rw [Tryz.underlying33] at hval
  simp only at hval
  obtain ⟨fuel, h⟩ := h
  have sp : ∀ a n k, v = .slice (some a) n k → a.spot = none := by
    intro a n k hc
    subst hc
    unfold Cell.okWide at hval
    rw [Tryz.underlying33] at hval
    simp only [Cell.ok, Tryz.underlying33] at hval
    exact hval.2.2.2.1
  have hc : v.cells.toList = [v] := by
    unfold Cell.okWide at hval
    rw [Tryz.underlying33] at hval
    cases v <;> first | rfl | (simp [Cell.ok, Tryz.underlying33] at hval)
  rw [hc] at h
  obtain ⟨x0, w0, l0, r0⟩ := trod_row Tryz.underlying33 kc73 cl73 (by decide) h sp
  obtain ⟨ws, e, hl, hb⟩ := words_of16 w0
  rw [e] at r0
  exact ⟨ws, hb, by omega, r0⟩
set_option maxRecDepth 100000 in
theorem words_of8 {xs : List (List Int)} (h : ∀ y ∈ xs, KWf [some .u8] y) : ∃ ws : List Nat, xs.map (elT Tryz.prog 5 [some .u8]) = ws.map (fun w : Nat => .lit (.int .u8 w)) ∧ ws.length = xs.length ∧ ∀ w ∈ ws, w < 256 := by
  induction xs with
  | nil => exact ⟨[], rfl, rfl, by simp⟩
  | cons y xs ih =>
    obtain ⟨l, e, hl, hb⟩ := ih fun z hz => h z (by simp [hz])
    have hy := h y (by simp)
    match y, hy with
    | [a], hy =>
      have ha : 0 ≤ a ∧ a < 256 := by
        have h1 := hy.1
        simp [Lit.wf, IntKind.min, IntKind.max, IntKind.signed, IntKind.bits] at h1
        omega
      refine ⟨a.toNat :: l, ?_, by simp [hl], fun s hs => ?_⟩
      · rw [List.map_cons, List.map_cons, e]
        congr 1
        unfold elT
        rw [wdE5]
        simp only [kc, keyCell, List.headD_cons, Bool.false_eq_true, if_false]
        rw [show ((a.toNat : Nat) : Int) = a by omega]
      · rcases List.mem_cons.1 hs with rfl | hs
        · omega
        · exact hb s hs
set_option maxRecDepth 100000 in
theorem open_by8 {H : Type} {enc : TypeId × Value → H} {W : World} {base : Nat} {v : Value} {d : DataW H} {p : List MemPlace} (hval : Value.okWide Tryz.prog W .any base 34 v) (h : DataW.Trod enc Tryz.prog W 0 (fun _ => true) true 34 v d p) :
    ∃ ws : List Nat, (∀ w ∈ ws, w < 256) ∧ ws.length ≤ maxLen ∧ RepT (Ab.hp (· < W.heap.size) W) (tB8 ws) v := by
  unfold Value.okWide at hval
  rw [Tryz.underlying34] at hval
  simp only at hval
  obtain ⟨fuel, h⟩ := h
  have sp : ∀ a n k, v = .slice (some a) n k → a.spot = none := by
    intro a n k hc
    subst hc
    unfold Cell.okWide at hval
    rw [Tryz.underlying34] at hval
    simp only [Cell.ok, Tryz.underlying34] at hval
    exact hval.2.2.2.1
  have hc : v.cells.toList = [v] := by
    unfold Cell.okWide at hval
    rw [Tryz.underlying34] at hval
    cases v <;> first | rfl | (simp [Cell.ok, Tryz.underlying34] at hval)
  rw [hc] at h
  obtain ⟨x0, w0, l0, r0⟩ := trod_row Tryz.underlying34 kcE5 clE5 (by decide) h sp
  obtain ⟨ws, e, hl, hb⟩ := words_of8 w0
  rw [e] at r0
  exact ⟨ws, hb, by omega, r0⟩
abbrev laid2 : List (String × DataW Unit) := [("math/bits.deBruijn32tab", Rows.laid_math_bits_deBruijn32tab), ("math/bits.deBruijn64tab", Rows.laid_math_bits_deBruijn64tab)]
theorem g32 : Tryz.prog.globalNamed "math/bits.deBruijn32tab" = some 1 := by kernel_rfl
theorem g64 : Tryz.prog.globalNamed "math/bits.deBruijn64tab" = some 0 := by kernel_rfl
theorem t32 : (Tryz.prog.globals[1]?).map (·.type) = some 264 := by kernel_rfl
theorem t64 : (Tryz.prog.globals[0]?).map (·.type) = some 198 := by kernel_rfl
theorem cl264 : Tryz.prog.cellsOf 264 = 32 := by kernel_rfl
theorem cl198 : Tryz.prog.cellsOf 198 = 64 := by kernel_rfl
theorem cl5 : Tryz.prog.cellsOf 5 = 1 := by kernel_rfl
theorem gSize : Tryz.prog.globals.size = 2 := by kernel_rfl
theorem gT0 : globT Tryz.prog 0 = some (tabT tab64) := by kernel_rfl
theorem gT1 : globT Tryz.prog 1 = some (tabT tab32) := by kernel_rfl
theorem tab_rep {W : World} {name : String} {g : Nat} {l : List Nat} (hg : Tryz.prog.globalNamed name = some g) (h : Lib.TabIs Tryz.prog W name .u8 (l.map fun n : Nat => (n : Int))) :
    RepT (Ab.hp (· < W.heap.size) W) (.ptr (tabT l) 0) (.pointer (some ⟨g, 0, none⟩)) := by
  unfold Lib.TabIs World.var? at h
  rw [hg, Option.bind_some] at h
  split at h
  · rename_i cs ty fr hb
    cases h
    unfold RepT
    have hlt : g < W.heap.size := by
      rcases Nat.lt_or_ge g W.heap.size with h | h
      · exact h
      · rw [Array.getElem?_eq_none h] at hb; cases hb
    refine ⟨g, 0, .agg ((l.map fun n : Nat => (n : Int)).map fun z => Value.int .u8 z).toArray, rfl, ?_, ?_, _, _, _, ⟨hlt, hb⟩, ?_⟩
    · unfold tabT RepT
      refine ⟨_, rfl, ?_, ?_⟩
      · rw [List.map_map]
        have := RepTs_lits (h := Ab.hp (· < W.heap.size) W) (l.map fun n : Nat => Value.int .u8 (n : Int))
        rw [List.map_map] at this
        exact this
      · intro v hv
        obtain ⟨z, _, rfl⟩ := List.mem_map.1 hv
        rfl
    · intro v hv
      simp only [Value.cells] at hv
      obtain ⟨z, _, rfl⟩ := List.mem_map.1 hv
      rfl
    · intro j v hv
      rw [Nat.zero_add]
      simpa [Value.cells] using hv
  · cases h
theorem glob_ok {W : World} (h : laidMetH Tryz.prog laid2 W) : GlobOK Tryz.prog (Ab.hp (· < W.heap.size) W) := by
  rw [MakeChecks.laidMetH_plain _ _ _ (by kernel_rfl)] at h
  have u264 := Tryz.underlying264
  have u198 := Tryz.underlying198
  have h0 : Lib.TabIs Tryz.prog W "math/bits.deBruijn32tab" .u8 (tab32.map fun n : Nat => (n : Int)) := Lib.tabIs_of_head g32 t32 u264 Tryz.underlying5 cl5 cl264 h
  have h1 : Lib.TabIs Tryz.prog W "math/bits.deBruijn64tab" .u8 (tab64.map fun n : Nat => (n : Int)) := Lib.tabIs_of_head g64 t64 u198 Tryz.underlying5 cl5 cl198 h.tail
  intro g x hx
  have hg : g < 2 := by
    rcases Nat.lt_or_ge g 2 with h | h
    · exact h
    · unfold globT at hx
      rw [Array.getElem?_eq_none (by rw [gSize]; exact h)] at hx
      cases hx
  have : g = 0 ∨ g = 1 := by omega
  rcases this with rfl | rfl
  · rw [gT0] at hx
    cases hx
    exact tab_rep g64 h1
  · rw [gT1] at hx
    cases hx
    exact tab_rep g32 h0
theorem door_met (os : Os) (args : Array Value) : laidMetH Tryz.prog laid2 ((World.doorLaid Tryz.prog 400 os).forCall (fun _ _ => 0) ⟨#[], args, []⟩).memory :=
  laidMetH_of_parts3 (fuel := 8) (laidMet_of_run' 8 (by kernel_rfl) (by kernel_rfl)) (by kernel_rfl) (by kernel_rfl)
end Go.Proofs.YtbhbbjngndmnmaaGreatDoor
