/- Proved here: laws that the statements need (WzV0). No conditions but those that each law states. -/
import Derived.Test.YtnmmhkkmejbckaaGreatDoorYE
import Derived.Test.YtnmmhkkmejbckaaGreatDoorFK
import Derived.Test.YtnmmhkkmejbckaaGreatDoorRows
import Derived.Lib.LaidTab
import Derived.Stop.LaidErr
import Derived.LaidMore
import Derived.Stop.Joined
import Derived.MakeChecks

set_option linter.unusedSimpArgs false
set_option linter.unusedVariables false

/- What is handed in: watches as trees; the tables lie where they may be read. -/
namespace Go.Proofs.YtnmmhkkmejbckaaGreatDoor
open Go Go.Ab Go.ChangeShapes Go.WideShapes Go.ChangeAt Go.RowKit

theorem own' : ownKnob Tryz.prog.godebug = none := by kernel_rfl
theorem laidOut' : laidOutB Tryz.prog = true := by kernel_rfl
theorem mapsRowed' : mapsRowed Tryz.prog = true := by kernel_rfl
theorem fullRows : ((List.range Tryz.prog.types.size).all fun t => match Tryz.prog.underlying t with | some (.slice e) => decide (0 < Tryz.prog.cellsOf e) | _ => true) = true := by kernel_rfl

abbrev kdO : Kinds := [some .i64, some .i64, some .i64, some .i64]
abbrev kdF : Kinds := [some .i64, some .i64, some .i64, some .i64, none]
theorem kc58 : kcells Tryz.prog 20 58 = some kdO := by kernel_rfl
theorem kc73 : kcells Tryz.prog 20 73 = some kdF := by kernel_rfl
theorem cl58 : kdO.length = Tryz.prog.cellsOf 58 := by kernel_rfl
theorem cl73 : kdF.length = Tryz.prog.cellsOf 73 := by kernel_rfl
theorem cl25 : Tryz.prog.cellsOf 25 = 2 := by kernel_rfl
theorem cl22 : Tryz.prog.cellsOf 22 = 1 := by kernel_rfl
theorem cl23 : Tryz.prog.cellsOf 23 = 1 := by kernel_rfl
theorem wd58 : isWide Tryz.prog 58 = true := by kernel_rfl
theorem wd73 : isWide Tryz.prog 73 = true := by kernel_rfl

structure Wa.Fits (w : Wa) : Prop where
  no : w.os.length ≤ maxLen
  nf : w.fs.length ≤ maxLen
theorem Wa.Fits.lens {w : Wa} (h : w.Fits) : Lens w := by
  have h1 := h.no
  have h2 := h.nf
  unfold maxLen at h1 h2
  exact ⟨by omega, by omega⟩

set_option maxRecDepth 100000 in
theorem owners_of {xs : List (List Int)} (h : ∀ y ∈ xs, KWf kdO y) : ∃ l : List Ow, xs.map (elT Tryz.prog 58 kdO) = l.map tOw ∧ l.length = xs.length := by
  induction xs with
  | nil => exact ⟨[], rfl, rfl⟩
  | cons y xs ih =>
    obtain ⟨l, e, hl⟩ := ih fun z hz => h z (by simp [hz])
    have hy := h y (by simp)
    match y, hy with
    | [a, b, c, d], hy =>
      refine ⟨⟨a, b, c, d⟩ :: l, ?_, by simp [hl]⟩
      rw [List.map_cons, List.map_cons, e]
      congr 1

set_option maxRecDepth 100000 in
theorem finds_of {xs : List (List Int)} (h : ∀ y ∈ xs, KWf kdF y) : ∃ l : List Fi, xs.map (elT Tryz.prog 73 kdF) = l.map tFi ∧ l.length = xs.length := by
  induction xs with
  | nil => exact ⟨[], rfl, rfl⟩
  | cons y xs ih =>
    obtain ⟨l, e, hl⟩ := ih fun z hz => h z (by simp [hz])
    have hy := h y (by simp)
    match y, hy with
    | [a, b, c, d, g], hy =>
      rcases hy.2.2.2.2.1 with rfl | rfl
      · refine ⟨⟨a, b, c, d, false⟩ :: l, ?_, by simp [hl]⟩
        rw [List.map_cons, List.map_cons, e]
        congr 1
      · refine ⟨⟨a, b, c, d, true⟩ :: l, ?_, by simp [hl]⟩
        rw [List.map_cons, List.map_cons, e]
        congr 1

set_option maxRecDepth 100000 in
theorem open_watch {H : Type} {enc : TypeId × Value → H} {W : World} {base : Nat} {v : Value} {d : DataW H} {p : List MemPlace} (hval : Value.okWide Tryz.prog W .any base 25 v) (h : DataW.Trod enc Tryz.prog W 0 (fun _ => true) true 25 v d p) :
    ∃ w : Wa, w.Fits ∧ RepT (Ab.hp (· < W.heap.size) W) (tWa w) v := by
  unfold Value.okWide at hval
  rw [Tryz.underlying25] at hval
  obtain ⟨cs, rfl, hsz, hrow⟩ := hval
  obtain ⟨fuel, h⟩ := h
  have hsz3 : cs.size = 2 := by rw [hsz, cl25]
  obtain ⟨c0, c1, rfl⟩ : ∃ c0 c1, cs = #[c0, c1] := by
    refine ⟨cs[0], cs[1], ?_⟩
    apply Array.ext
    · simp [hsz3]
    · intro i h1 h2
      have : i = 0 ∨ i = 1 := by omega
      rcases this with rfl | rfl <;> rfl
  have hct : Tryz.prog.cellTypes Tryz.prog.depth 25 = some [22, 23] := by kernel_rfl
  obtain ⟨ts, hts, _, hcells⟩ := hrow
  rw [hct] at hts
  cases hts
  have sp : ∀ (i : Nat) (c : Value) (u e : TypeId), #[c0, c1][i]? = some c → [22, 23][i % 2]? = some u → Tryz.prog.underlying u = some (.slice e) → ∀ a n k, c = .slice (some a) n k → a.spot = none := by
    intro i c u e h1 h2 h3 a n k hc
    obtain ⟨u', h4, h5⟩ := hcells i c h1
    have : u' = u := Option.some.inj (h4.symm.trans h2)
    subst this
    subst hc
    unfold Cell.okWide at h5
    rw [h3] at h5
    simp only [Cell.ok, h3] at h5
    exact h5.2.2.2.1
  have h' : DataW.trod enc Tryz.prog W 0 (fun _ => true) true fuel 25 [c0, c1] = some (d, p) := h
  obtain ⟨n, hm⟩ := trod_fields Tryz.underlying25 h'
  obtain ⟨y0, h0⟩ := hm 0 _ rfl
  obtain ⟨y1, h1⟩ := hm 1 _ rfl
  rw [cl22] at h0
  rw [cl23] at h1
  obtain ⟨x0, w0, l0, r0⟩ := trod_row Tryz.underlying22 kc58 cl58 (by decide) h0 (sp 0 c0 22 58 rfl rfl Tryz.underlying22)
  obtain ⟨x1, w1, l1, r1⟩ := trod_row Tryz.underlying23 kc73 cl73 (by decide) h1 (sp 1 c1 23 73 rfl rfl Tryz.underlying23)
  obtain ⟨os, eo, lo⟩ := owners_of w0
  obtain ⟨fs, ef, lf⟩ := finds_of w1
  rw [eo] at r0
  rw [ef] at r1
  refine ⟨⟨os, fs⟩, ⟨by simp only; omega, by simp only; omega⟩, ?_⟩
  have one : ∀ {es : Nat} {xs : List T} {c : Value} {h : Ab.Hp}, RepT h (.slice es xs) c → Ab.One c := fun r => by
    unfold RepT at r
    obtain ⟨a, n, c, rfl, _⟩ := r
    rfl
  unfold tWa wa2 RepT
  refine ⟨[c0, c1], rfl, ?_, fun u hu => ?_⟩
  · unfold RepTs
    refine ⟨c0, [c1], rfl, r0, ?_⟩
    unfold RepTs
    refine ⟨c1, [], rfl, r1, ?_⟩
    unfold RepTs
    rfl
  · simp only [List.mem_cons, List.not_mem_nil, or_false] at hu
    rcases hu with rfl | rfl
    · exact one r0
    · exact one r1

theorem u8_nat {n : Int} (h : (Lit.int .u8 n).wf = true) : ∃ w : Nat, n = w ∧ w < 256 := by
  have h1 : 0 ≤ n ∧ n ≤ 255 := by simpa [Lit.wf, IntKind.min, IntKind.max, IntKind.signed, IntKind.bits] using h
  exact ⟨n.toNat, by omega, by omega⟩

theorem u16_nat {n : Int} (h : (Lit.int .u16 n).wf = true) : ∃ w : Nat, n = w ∧ w < 65536 := by
  have h1 : 0 ≤ n ∧ n ≤ 65535 := by simpa [Lit.wf, IntKind.min, IntKind.max, IntKind.signed, IntKind.bits] using h
  exact ⟨n.toNat, by omega, by omega⟩

/-! ### The tables -/
abbrev laid2 : List (String × DataW Unit) := [("math/bits.deBruijn32tab", Rows.laid_math_bits_deBruijn32tab), ("math/bits.deBruijn64tab", Rows.laid_math_bits_deBruijn64tab)]
theorem g32 : Tryz.prog.globalNamed "math/bits.deBruijn32tab" = some 0 := by kernel_rfl
theorem g64 : Tryz.prog.globalNamed "math/bits.deBruijn64tab" = some 1 := by kernel_rfl
theorem t32 : (Tryz.prog.globals[0]?).map (·.type) = some 148 := by kernel_rfl
theorem t64 : (Tryz.prog.globals[1]?).map (·.type) = some 149 := by kernel_rfl
theorem cl148 : Tryz.prog.cellsOf 148 = 32 := by kernel_rfl
theorem cl149 : Tryz.prog.cellsOf 149 = 64 := by kernel_rfl
theorem cl5 : Tryz.prog.cellsOf 5 = 1 := by kernel_rfl
theorem gSize : Tryz.prog.globals.size = 2 := by kernel_rfl
theorem gT0 : globT Tryz.prog 0 = some (tabT tab32) := by kernel_rfl
theorem gT1 : globT Tryz.prog 1 = some (tabT tab64) := by kernel_rfl

theorem tab_rep {W : World} {name : String} {g : Nat} {l : List Nat} (hg : Tryz.prog.globalNamed name = some g) (h : Lib.TabIs Tryz.prog W name .u8 (l.map fun n : Nat => (n : Int))) :
    RepT (Ab.hp (· < W.heap.size) W) (.ptr (tabT l) 0) (.pointer (some ⟨g, 0, none⟩)) := by
  unfold Lib.TabIs World.var? at h
  rw [hg, Option.bind_some] at h
  split at h
  · rename_i cs ty fr hb
    cases h
    unfold RepT
    have hlt : g < W.heap.size := by
      rcases Nat.lt_or_ge g W.heap.size with h | h
      · exact h
      · rw [Array.getElem?_eq_none h] at hb; cases hb
    refine ⟨g, 0, .agg ((l.map fun n : Nat => (n : Int)).map fun z => Value.int .u8 z).toArray, rfl, ?_, ?_, _, _, _, ⟨hlt, hb⟩, ?_⟩
    · unfold tabT RepT
      refine ⟨_, rfl, ?_, ?_⟩
      · rw [List.map_map]
        have := RepTs_lits (h := Ab.hp (· < W.heap.size) W) (l.map fun n : Nat => Value.int .u8 (n : Int))
        rw [List.map_map] at this
        exact this
      · intro v hv
        obtain ⟨z, _, rfl⟩ := List.mem_map.1 hv
        rfl
    · intro v hv
      simp only [Value.cells] at hv
      obtain ⟨z, _, rfl⟩ := List.mem_map.1 hv
      rfl
    · intro j v hv
      rw [Nat.zero_add]
      simpa [Value.cells] using hv
  · cases h

theorem glob_ok {W : World} (h : laidMetH Tryz.prog laid2 W) : GlobOK Tryz.prog (Ab.hp (· < W.heap.size) W) := by
  rw [MakeChecks.laidMetH_plain _ _ _ (by kernel_rfl)] at h
  have u148 := Tryz.underlying148
  have u149 := Tryz.underlying149
  have h0 : Lib.TabIs Tryz.prog W "math/bits.deBruijn32tab" .u8 (tab32.map fun n : Nat => (n : Int)) := Lib.tabIs_of_head g32 t32 u148 Tryz.underlying5 cl5 cl148 h
  have h1 : Lib.TabIs Tryz.prog W "math/bits.deBruijn64tab" .u8 (tab64.map fun n : Nat => (n : Int)) := Lib.tabIs_of_head g64 t64 u149 Tryz.underlying5 cl5 cl149 h.tail
  intro g x hx
  have hg : g < 2 := by
    rcases Nat.lt_or_ge g 2 with h | h
    · exact h
    · unfold globT at hx
      rw [Array.getElem?_eq_none (by rw [gSize]; exact h)] at hx
      cases hx
  have : g = 0 ∨ g = 1 := by omega
  rcases this with rfl | rfl
  · rw [gT0] at hx
    cases hx
    exact tab_rep g32 h0
  · rw [gT1] at hx
    cases hx
    exact tab_rep g64 h1

/-- The door's own heap holds the tables. -/
theorem door_met (os : Os) (args : Array Value) : laidMetH Tryz.prog laid2 ((World.doorLaid Tryz.prog 400 os).forCall (fun _ _ => 0) ⟨#[], args, []⟩).memory :=
  laidMetH_of_parts3 (fuel := 8) (laidMet_of_run' 8 (by kernel_rfl) (by kernel_rfl)) (by kernel_rfl) (by kernel_rfl)
end Go.Proofs.YtnmmhkkmejbckaaGreatDoor
