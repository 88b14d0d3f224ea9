/- Proved here: laws that the statements need (SuV0). No conditions but those that each law states. -/
import Derived.Test.YtmahocdmkpigjaaDoorSE
import Derived.Test.YtmahocdmkpigjaaDoorFK
import Derived.Test.YtmahocdmkpigjaaDoorRows
import Derived.Lib.LaidTab
import Derived.Stop.LaidErr
import Derived.LaidMore
import Derived.Stop.Joined
import Derived.MakeChecks

set_option linter.unusedSimpArgs false
set_option linter.unusedVariables false

/- What is handed in: surfs as trees; the tables lie where they may be read. -/
namespace Go.Proofs.YtmahocdmkpigjaaDoor
open Go Go.Ab Go.ChangeShapes Go.WideShapes Go.ChangeAt Go.RowKit

theorem own' : ownKnob Tryd.prog.godebug = none := by kernel_rfl
theorem laidOut' : laidOutB Tryd.prog = true := by kernel_rfl
theorem mapsRowed' : mapsRowed Tryd.prog = true := by kernel_rfl
theorem fullRows : ((List.range Tryd.prog.types.size).all fun t => match Tryd.prog.underlying t with | some (.slice e) => decide (0 < Tryd.prog.cellsOf e) | _ => true) = true := by kernel_rfl

abbrev kdS : Kinds := [some .i64, some .i64]
abbrev kdH : Kinds := [some .i64, some .i64, some .i64]
theorem kc29 : kcells Tryd.prog 20 29 = some kdS := by kernel_rfl
theorem kc52 : kcells Tryd.prog 20 52 = some kdH := by kernel_rfl
theorem cl29 : kdS.length = Tryd.prog.cellsOf 29 := by kernel_rfl
theorem cl52 : kdH.length = Tryd.prog.cellsOf 52 := by kernel_rfl
theorem cl25 : Tryd.prog.cellsOf 25 = 5 := by kernel_rfl
theorem cl3 : Tryd.prog.cellsOf 3 = 1 := by kernel_rfl
theorem cl22 : Tryd.prog.cellsOf 22 = 1 := by kernel_rfl
theorem cl23 : Tryd.prog.cellsOf 23 = 1 := by kernel_rfl
theorem wd29 : isWide Tryd.prog 29 = true := by kernel_rfl
theorem wd52 : isWide Tryd.prog 52 = true := by kernel_rfl

structure Su.Fits (s : Su) : Prop where
  nw : s.water.length ≤ maxLen
  nv : s.waves.length ≤ maxLen
  nh : s.huts.length ≤ maxLen
theorem Su.Fits.lens {s : Su} (h : s.Fits) : Lens s := by
  have h1 := h.nw
  have h2 := h.nv
  have h3 := h.nh
  unfold maxLen at h1 h2 h3
  exact ⟨by omega, by omega, by omega⟩

set_option maxRecDepth 100000 in
theorem huts_of {xs : List (List Int)} (h : ∀ y ∈ xs, KWf kdH y) : ∃ l : List Hu, xs.map (elT Tryd.prog 52 kdH) = l.map tHu ∧ l.length = xs.length := by
  induction xs with
  | nil => exact ⟨[], rfl, rfl⟩
  | cons y xs ih =>
    obtain ⟨l, e, hl⟩ := ih fun z hz => h z (by simp [hz])
    have hy := h y (by simp)
    match y, hy with
    | [a, b, c], hy =>
      refine ⟨⟨a, b, c⟩ :: l, ?_, by simp [hl]⟩
      rw [List.map_cons, List.map_cons, e]
      congr 1

set_option maxRecDepth 100000 in
theorem spans_of {xs : List (List Int)} (h : ∀ y ∈ xs, KWf kdS y) : ∃ l : List Sp, xs.map (elT Tryd.prog 29 kdS) = l.map tSp ∧ l.length = xs.length := by
  induction xs with
  | nil => exact ⟨[], rfl, rfl⟩
  | cons y xs ih =>
    obtain ⟨l, e, hl⟩ := ih fun z hz => h z (by simp [hz])
    have hy := h y (by simp)
    match y, hy with
    | [a, b], hy =>
      refine ⟨(a, b) :: l, ?_, by simp [hl]⟩
      rw [List.map_cons, List.map_cons, e]
      congr 1

set_option maxRecDepth 100000 in
theorem open_surf {H : Type} {enc : TypeId × Value → H} {W : World} {base : Nat} {v : Value} {d : DataW H} {p : List MemPlace} (hval : Value.okWide Tryd.prog W .any base 25 v) (h : DataW.Trod enc Tryd.prog W 0 (fun _ => true) true 25 v d p) :
    ∃ s : Su, s.Fits ∧ RepT (Ab.hp (· < W.heap.size) W) (.agg (su5 s)) v := by
  unfold Value.okWide at hval
  rw [Tryd.underlying25] at hval
  obtain ⟨cs, rfl, hsz, hrow⟩ := hval
  obtain ⟨fuel, h⟩ := h
  have hsz3 : cs.size = 5 := by rw [hsz, cl25]
  obtain ⟨c0, c1, c2, c3, c4, rfl⟩ : ∃ c0 c1 c2 c3 c4, cs = #[c0, c1, c2, c3, c4] := by
    refine ⟨cs[0], cs[1], cs[2], cs[3], cs[4], ?_⟩
    apply Array.ext
    · simp [hsz3]
    · intro i h1 h2
      have : i = 0 ∨ i = 1 ∨ i = 2 ∨ i = 3 ∨ i = 4 := by omega
      rcases this with rfl | rfl | rfl | rfl | rfl <;> rfl
  -- where empty slices point to
  have hct : Tryd.prog.cellTypes Tryd.prog.depth 25 = some [3, 3, 22, 22, 23] := by kernel_rfl
  obtain ⟨ts, hts, _, hcells⟩ := hrow
  rw [hct] at hts
  cases hts
  have sp : ∀ (i : Nat) (c : Value) (u e : TypeId), #[c0, c1, c2, c3, c4][i]? = some c → [3, 3, 22, 22, 23][i % 5]? = some u → Tryd.prog.underlying u = some (.slice e) → ∀ a n k, c = .slice (some a) n k → a.spot = none := by
    intro i c u e h1 h2 h3 a n k hc
    obtain ⟨u', h4, h5⟩ := hcells i c h1
    have : u' = u := Option.some.inj (h4.symm.trans h2)
    subst this
    subst hc
    unfold Cell.okWide at h5
    rw [h3] at h5
    simp only [Cell.ok, h3] at h5
    exact h5.2.2.2.1
  have h' : DataW.trod enc Tryd.prog W 0 (fun _ => true) true fuel 25 [c0, c1, c2, c3, c4] = some (d, p) := h
  obtain ⟨n, hm⟩ := trod_fields Tryd.underlying25 h'
  obtain ⟨y0, h0⟩ := hm 0 _ rfl
  obtain ⟨y1, h1⟩ := hm 1 _ rfl
  obtain ⟨y2, h2⟩ := hm 2 _ rfl
  obtain ⟨y3, h3⟩ := hm 3 _ rfl
  obtain ⟨y4, h4⟩ := hm 4 _ rfl
  rw [cl3] at h0 h1
  rw [cl22] at h2 h3
  rw [cl23] at h4
  obtain ⟨z0, e0, -, f0⟩ := DataW.trod_int Tryd.underlying3 h0
  obtain ⟨z1, e1, -, f1⟩ := DataW.trod_int Tryd.underlying3 h1
  have e0' : c0 = .int .i64 z0 := by simpa using e0
  have e1' : c1 = .int .i64 z1 := by simpa using e1
  subst e0' e1'
  obtain ⟨x2, w2, l2, r2⟩ := trod_row Tryd.underlying22 kc29 cl29 (by decide) h2 (sp 2 c2 22 29 rfl rfl Tryd.underlying22)
  obtain ⟨x3, w3, l3, r3⟩ := trod_row Tryd.underlying22 kc29 cl29 (by decide) h3 (sp 3 c3 22 29 rfl rfl Tryd.underlying22)
  obtain ⟨x4, w4, l4, r4⟩ := trod_row Tryd.underlying23 kc52 cl52 (by decide) h4 (sp 4 c4 23 52 rfl rfl Tryd.underlying23)
  obtain ⟨wa, ea, la⟩ := spans_of w2
  obtain ⟨wv, ev, lv⟩ := spans_of w3
  obtain ⟨hu, eh, lh⟩ := huts_of w4
  rw [ea] at r2
  rw [ev] at r3
  rw [eh] at r4
  refine ⟨⟨z0, z1, wa, wv, hu⟩, ⟨by simp only; omega, by simp only; omega, by simp only; omega⟩, ?_⟩
  have one : ∀ {es : Nat} {xs : List T} {c : Value} {h : Ab.Hp}, RepT h (.slice es xs) c → Ab.One c := fun r => by
    unfold RepT at r
    obtain ⟨a, n, c, rfl, _⟩ := r
    rfl
  unfold RepT
  refine ⟨[.int .i64 z0, .int .i64 z1, c2, c3, c4], rfl, ?_, fun u hu => ?_⟩
  · unfold su5 RepTs
    refine ⟨_, _, rfl, by unfold RepT; rfl, ?_⟩
    unfold RepTs
    refine ⟨_, _, rfl, by unfold RepT; rfl, ?_⟩
    unfold RepTs
    refine ⟨c2, [c3, c4], rfl, r2, ?_⟩
    unfold RepTs
    refine ⟨c3, [c4], rfl, r3, ?_⟩
    unfold RepTs
    refine ⟨c4, [], rfl, r4, ?_⟩
    unfold RepTs
    rfl
  · simp only [List.mem_cons, List.not_mem_nil, or_false] at hu
    rcases hu with rfl | rfl | rfl | rfl | rfl
    · rfl
    · rfl
    · exact one r2
    · exact one r3
    · exact one r4

theorem u8_nat {n : Int} (h : (Lit.int .u8 n).wf = true) : ∃ w : Nat, n = w ∧ w < 256 := by
  have h1 : 0 ≤ n ∧ n ≤ 255 := by simpa [Lit.wf, IntKind.min, IntKind.max, IntKind.signed, IntKind.bits] using h
  exact ⟨n.toNat, by omega, by omega⟩

/-! ### The tables -/
abbrev laid2 : List (String × DataW Unit) := [("math/bits.deBruijn32tab", Rows.laid_math_bits_deBruijn32tab), ("math/bits.deBruijn64tab", Rows.laid_math_bits_deBruijn64tab)]
theorem g32 : Tryd.prog.globalNamed "math/bits.deBruijn32tab" = some 0 := by kernel_rfl
theorem g64 : Tryd.prog.globalNamed "math/bits.deBruijn64tab" = some 1 := by kernel_rfl
theorem t32 : (Tryd.prog.globals[0]?).map (·.type) = some 143 := by kernel_rfl
theorem t64 : (Tryd.prog.globals[1]?).map (·.type) = some 144 := by kernel_rfl
theorem cl143 : Tryd.prog.cellsOf 143 = 32 := by kernel_rfl
theorem cl144 : Tryd.prog.cellsOf 144 = 64 := by kernel_rfl
theorem cl5 : Tryd.prog.cellsOf 5 = 1 := by kernel_rfl
theorem gSize : Tryd.prog.globals.size = 2 := by kernel_rfl
theorem gT0 : globT Tryd.prog 0 = some (tabT tab32) := by kernel_rfl
theorem gT1 : globT Tryd.prog 1 = some (tabT tab64) := by kernel_rfl

theorem tab_rep {W : World} {name : String} {g : Nat} {l : List Nat} (hg : Tryd.prog.globalNamed name = some g) (h : Lib.TabIs Tryd.prog W name .u8 (l.map fun n : Nat => (n : Int))) :
    RepT (Ab.hp (· < W.heap.size) W) (.ptr (tabT l) 0) (.pointer (some ⟨g, 0, none⟩)) := by
  unfold Lib.TabIs World.var? at h
  rw [hg, Option.bind_some] at h
  split at h
  · rename_i cs ty fr hb
    cases h
    unfold RepT
    have hlt : g < W.heap.size := by
      rcases Nat.lt_or_ge g W.heap.size with h | h
      · exact h
      · rw [Array.getElem?_eq_none h] at hb; cases hb
    refine ⟨g, 0, .agg ((l.map fun n : Nat => (n : Int)).map fun z => Value.int .u8 z).toArray, rfl, ?_, ?_, _, _, _, ⟨hlt, hb⟩, ?_⟩
    · unfold tabT RepT
      refine ⟨_, rfl, ?_, ?_⟩
      · rw [List.map_map]
        have := RepTs_lits (h := Ab.hp (· < W.heap.size) W) (l.map fun n : Nat => Value.int .u8 (n : Int))
        rw [List.map_map] at this
        exact this
      · intro v hv
        obtain ⟨z, _, rfl⟩ := List.mem_map.1 hv
        rfl
    · intro v hv
      simp only [Value.cells] at hv
      obtain ⟨z, _, rfl⟩ := List.mem_map.1 hv
      rfl
    · intro j v hv
      rw [Nat.zero_add]
      simpa [Value.cells] using hv
  · cases h

theorem glob_ok {W : World} (h : laidMetH Tryd.prog laid2 W) : GlobOK Tryd.prog (Ab.hp (· < W.heap.size) W) := by
  rw [MakeChecks.laidMetH_plain _ _ _ (by kernel_rfl)] at h
  have u143 := Tryd.underlying143
  have u144 := Tryd.underlying144
  have h0 : Lib.TabIs Tryd.prog W "math/bits.deBruijn32tab" .u8 (tab32.map fun n : Nat => (n : Int)) := Lib.tabIs_of_head g32 t32 u143 Tryd.underlying5 cl5 cl143 h
  have h1 : Lib.TabIs Tryd.prog W "math/bits.deBruijn64tab" .u8 (tab64.map fun n : Nat => (n : Int)) := Lib.tabIs_of_head g64 t64 u144 Tryd.underlying5 cl5 cl144 h.tail
  intro g x hx
  have hg : g < 2 := by
    rcases Nat.lt_or_ge g 2 with h | h
    · exact h
    · unfold globT at hx
      rw [Array.getElem?_eq_none (by rw [gSize]; exact h)] at hx
      cases hx
  have : g = 0 ∨ g = 1 := by omega
  rcases this with rfl | rfl
  · rw [gT0] at hx
    cases hx
    exact tab_rep g32 h0
  · rw [gT1] at hx
    cases hx
    exact tab_rep g64 h1

/-- The door's own heap holds the tables. -/
theorem door_met (os : Os) (args : Array Value) : laidMetH Tryd.prog laid2 ((World.doorLaid Tryd.prog 400 os).forCall (fun _ _ => 0) ⟨#[], args, []⟩).memory :=
  laidMetH_of_parts3 (fuel := 8) (laidMet_of_run' 8 (by kernel_rfl) (by kernel_rfl)) (by kernel_rfl) (by kernel_rfl)
end Go.Proofs.YtmahocdmkpigjaaDoor
