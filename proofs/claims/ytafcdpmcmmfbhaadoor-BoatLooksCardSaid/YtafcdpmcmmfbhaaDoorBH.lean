/- Proved here: laws that the statements need (BoV0). No conditions but those that each law states. -/
import Derived.Test.YtafcdpmcmmfbhaaDoorBG
import Derived.Test.YtafcdpmcmmfbhaaDoorFO
import Derived.Test.YtafcdpmcmmfbhaaDoorRows
import Derived.Lib.LaidTab
import Derived.Stop.LaidErr
import Derived.LaidMore
import Derived.Stop.Joined
import Derived.MakeChecks

set_option linter.unusedSimpArgs false
set_option linter.unusedVariables false

/- What is handed in: boats as trees; the tables lie where they may be read. -/
namespace Go.Proofs.YtafcdpmcmmfbhaaDoor
open Go Go.Ab Go.ChangeShapes Go.WideShapes Go.ChangeAt Go.RowKit

theorem own' : ownKnob Tryd.prog.godebug = none := by kernel_rfl
theorem laidOut' : laidOutB Tryd.prog = true := by kernel_rfl
theorem mapsRowed' : mapsRowed Tryd.prog = true := by kernel_rfl
theorem fullRows : ((List.range Tryd.prog.types.size).all fun t => match Tryd.prog.underlying t with | some (.slice e) => decide (0 < Tryd.prog.cellsOf e) | _ => true) = true := by kernel_rfl

abbrev kdB : Kinds := [some .i64, some .i64, some .i64, some .i64, some .i64]
theorem kc54 : kcells Tryd.prog 20 54 = some kdB := by kernel_rfl
theorem cl54 : kdB.length = Tryd.prog.cellsOf 54 := by kernel_rfl
theorem cl54' : Tryd.prog.cellsOf 54 = 5 := by kernel_rfl
theorem cl24 : Tryd.prog.cellsOf 24 = 5 := by kernel_rfl
theorem cl3 : Tryd.prog.cellsOf 3 = 1 := by kernel_rfl
theorem cl22 : Tryd.prog.cellsOf 22 = 1 := by kernel_rfl
theorem cl44 : Tryd.prog.cellsOf 44 = 1 := by kernel_rfl
theorem wd54 : isWide Tryd.prog 54 = true := by kernel_rfl

structure Bo.Fits (b : Bo) : Prop where
  n : b.seen.length ≤ maxLen
  l : ∀ x ∈ b.seen, x.length ≤ maxLen
theorem Bo.Fits.lens {b : Bo} (h : b.Fits) : Lens b := by
  have h1 := h.n
  have h2 := h.l
  unfold maxLen at h1 h2
  exact ⟨by omega, fun x hx => by have := h2 x hx; omega⟩

set_option maxRecDepth 100000 in
theorem sis_of {xs : List T} (h : ∀ y ∈ xs, ∃ ns, KWf kdB ns ∧ y = elT Tryd.prog 54 kdB ns) : ∃ l : List Si, xs = l.map tSi ∧ l.length = xs.length := by
  induction xs with
  | nil => exact ⟨[], rfl, rfl⟩
  | cons y xs ih =>
    obtain ⟨l, e, hl⟩ := ih fun z hz => h z (by simp [hz])
    obtain ⟨ns, hy, rfl⟩ := h y (by simp)
    match ns, hy with
    | [a, b, c, d, f], hy =>
      refine ⟨⟨a, b, c, d, f⟩ :: l, ?_, by simp [hl]⟩
      rw [List.map_cons, e]
      congr 1
theorem seen_of {xs : List T} (h : ∀ y ∈ xs, ∃ ys : List T, (∀ z ∈ ys, ∃ ns, KWf kdB ns ∧ z = elT Tryd.prog 54 kdB ns) ∧ ys.length ≤ maxLen ∧ y = .slice (Tryd.prog.cellsOf 54) ys) : ∃ l : List (List Si), xs = l.map tSis ∧ l.length = xs.length ∧ ∀ x ∈ l, x.length ≤ maxLen := by
  induction xs with
  | nil => exact ⟨[], rfl, rfl, by simp⟩
  | cons y xs ih =>
    obtain ⟨l, e, hl, hm⟩ := ih fun z hz => h z (by simp [hz])
    obtain ⟨ys, hy, hn, rfl⟩ := h y (by simp)
    obtain ⟨k, rfl, hk⟩ := sis_of hy
    refine ⟨k :: l, ?_, by simp [hl], fun x hx => ?_⟩
    · rw [List.map_cons, e, cl54']; rfl
    · rcases List.mem_cons.1 hx with rfl | hx
      · omega
      · exact hm x hx

set_option maxRecDepth 100000 in
theorem open_boat {H : Type} {enc : TypeId × Value → H} {W : World} {base : Nat} {v : Value} {d : DataW H} {p : List MemPlace} (hval : Value.okWide Tryd.prog W .any base 24 v) (h : DataW.Trod enc Tryd.prog W 0 (fun _ => true) true 24 v d p) :
    ∃ b : Bo, b.Fits ∧ RepT (Ab.hp (· < W.heap.size) W) (.agg (bo5 b)) v := by
  unfold Value.okWide at hval
  rw [Tryd.underlying24] at hval
  obtain ⟨cs, rfl, hsz, -⟩ := hval
  obtain ⟨fuel, h⟩ := h
  have hsz3 : cs.size = 5 := by rw [hsz, cl24]
  obtain ⟨c0, c1, c2, c3, c4, rfl⟩ : ∃ c0 c1 c2 c3 c4, cs = #[c0, c1, c2, c3, c4] := by
    refine ⟨cs[0], cs[1], cs[2], cs[3], cs[4], ?_⟩
    apply Array.ext
    · simp [hsz3]
    · intro i h1 h2
      have : i = 0 ∨ i = 1 ∨ i = 2 ∨ i = 3 ∨ i = 4 := by omega
      rcases this with rfl | rfl | rfl | rfl | rfl <;> rfl
  have h' : DataW.trod enc Tryd.prog W 0 (fun _ => true) true fuel 24 [c0, c1, c2, c3, c4] = some (d, p) := h
  obtain ⟨n, hm⟩ := trod_fields Tryd.underlying24 h'
  obtain ⟨y0, h0⟩ := hm 0 _ rfl
  obtain ⟨y1, h1⟩ := hm 1 _ rfl
  obtain ⟨y2, h2⟩ := hm 2 _ rfl
  obtain ⟨y3, h3⟩ := hm 3 _ rfl
  obtain ⟨y4, h4⟩ := hm 4 _ rfl
  rw [cl3] at h0 h1 h2 h3
  rw [cl22] at h4
  obtain ⟨z0, e0, -, f0⟩ := DataW.trod_int Tryd.underlying3 h0
  obtain ⟨z1, e1, -, f1⟩ := DataW.trod_int Tryd.underlying3 h1
  obtain ⟨z2, e2, -, f2⟩ := DataW.trod_int Tryd.underlying3 h2
  obtain ⟨z3, e3, -, f3⟩ := DataW.trod_int Tryd.underlying3 h3
  have e0' : c0 = .int .i64 z0 := by simpa using e0
  have e1' : c1 = .int .i64 z1 := by simpa using e1
  have e2' : c2 = .int .i64 z2 := by simpa using e2
  have e3' : c3 = .int .i64 z3 := by simpa using e3
  subst e0' e1' e2' e3'
  obtain ⟨x4, w4, l4, r4, o4⟩ := trod_row2 Tryd.underlying22 Tryd.underlying44 cl44 kc54 cl54 (by rw [cl54']; decide) h4
  obtain ⟨sn, rfl, ln, lm⟩ := seen_of w4
  refine ⟨⟨z0, z1, z2, z3, sn⟩, ⟨by simp only; omega, lm⟩, ?_⟩
  unfold RepT
  refine ⟨[.int .i64 z0, .int .i64 z1, .int .i64 z2, .int .i64 z3, c4], rfl, ?_, fun u hu => ?_⟩
  · unfold bo5 RepTs
    refine ⟨_, _, rfl, by unfold RepT; rfl, ?_⟩
    unfold RepTs
    refine ⟨_, _, rfl, by unfold RepT; rfl, ?_⟩
    unfold RepTs
    refine ⟨_, _, rfl, by unfold RepT; rfl, ?_⟩
    unfold RepTs
    refine ⟨_, _, rfl, by unfold RepT; rfl, ?_⟩
    unfold RepTs
    refine ⟨c4, [], rfl, r4, ?_⟩
    unfold RepTs
    rfl
  · simp only [List.mem_cons, List.not_mem_nil, or_false] at hu
    rcases hu with rfl | rfl | rfl | rfl | rfl
    · rfl
    · rfl
    · rfl
    · rfl
    · exact o4

theorem u8_nat {n : Int} (h : (Lit.int .u8 n).wf = true) : ∃ w : Nat, n = w ∧ w < 256 := by
  have h1 : 0 ≤ n ∧ n ≤ 255 := by simpa [Lit.wf, IntKind.min, IntKind.max, IntKind.signed, IntKind.bits] using h
  exact ⟨n.toNat, by omega, by omega⟩

/-! ### The tables -/
abbrev laid2 : List (String × DataW Unit) := [("math/bits.deBruijn64tab", Rows.laid_math_bits_deBruijn64tab)]
theorem g64 : Tryd.prog.globalNamed "math/bits.deBruijn64tab" = some 0 := by kernel_rfl
theorem t64 : (Tryd.prog.globals[0]?).map (·.type) = some 129 := by kernel_rfl
theorem cl129 : Tryd.prog.cellsOf 129 = 64 := by kernel_rfl
theorem cl5 : Tryd.prog.cellsOf 5 = 1 := by kernel_rfl
theorem gSize : Tryd.prog.globals.size = 1 := by kernel_rfl
theorem gT0 : globT Tryd.prog 0 = some (tabT tab64) := by kernel_rfl

theorem tab_rep {W : World} {name : String} {g : Nat} {l : List Nat} (hg : Tryd.prog.globalNamed name = some g) (h : Lib.TabIs Tryd.prog W name .u8 (l.map fun n : Nat => (n : Int))) :
    RepT (Ab.hp (· < W.heap.size) W) (.ptr (tabT l) 0) (.pointer (some ⟨g, 0, none⟩)) := by
  unfold Lib.TabIs World.var? at h
  rw [hg, Option.bind_some] at h
  split at h
  · rename_i cs ty fr hb
    cases h
    unfold RepT
    have hlt : g < W.heap.size := by
      rcases Nat.lt_or_ge g W.heap.size with h | h
      · exact h
      · rw [Array.getElem?_eq_none h] at hb; cases hb
    refine ⟨g, 0, .agg ((l.map fun n : Nat => (n : Int)).map fun z => Value.int .u8 z).toArray, rfl, ?_, ?_, _, _, _, ⟨hlt, hb⟩, ?_⟩
    · unfold tabT RepT
      refine ⟨_, rfl, ?_, ?_⟩
      · rw [List.map_map]
        have := RepTs_lits (h := Ab.hp (· < W.heap.size) W) (l.map fun n : Nat => Value.int .u8 (n : Int))
        rw [List.map_map] at this
        exact this
      · intro v hv
        obtain ⟨z, _, rfl⟩ := List.mem_map.1 hv
        rfl
    · intro v hv
      simp only [Value.cells] at hv
      obtain ⟨z, _, rfl⟩ := List.mem_map.1 hv
      rfl
    · intro j v hv
      rw [Nat.zero_add]
      simpa [Value.cells] using hv
  · cases h

theorem glob_ok {W : World} (h : laidMetH Tryd.prog laid2 W) : GlobOK Tryd.prog (Ab.hp (· < W.heap.size) W) := by
  rw [MakeChecks.laidMetH_plain _ _ _ (by kernel_rfl)] at h
  have u129 := Tryd.underlying129
  have h0 : Lib.TabIs Tryd.prog W "math/bits.deBruijn64tab" .u8 (tab64.map fun n : Nat => (n : Int)) := Lib.tabIs_of_head g64 t64 u129 Tryd.underlying5 cl5 cl129 h
  intro g x hx
  have hg : g < 1 := by
    rcases Nat.lt_or_ge g 1 with h | h
    · exact h
    · unfold globT at hx
      rw [Array.getElem?_eq_none (by rw [gSize]; exact h)] at hx
      cases hx
  have : g = 0 := by omega
  subst this
  rw [gT0] at hx
  cases hx
  exact tab_rep g64 h0

/-- The door's own heap holds the tables. -/
theorem door_met (os : Os) (args : Array Value) : laidMetH Tryd.prog laid2 ((World.doorLaid Tryd.prog 400 os).forCall (fun _ _ => 0) ⟨#[], args, []⟩).memory :=
  laidMetH_of_parts3 (fuel := 8) (laidMet_of_run' 8 (by kernel_rfl) (by kernel_rfl)) (by kernel_rfl) (by kernel_rfl)
end Go.Proofs.YtafcdpmcmmfbhaaDoor
