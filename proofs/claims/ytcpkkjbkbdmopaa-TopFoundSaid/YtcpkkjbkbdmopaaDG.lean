/- Proved here: laws that the statements need (RaV0). No conditions but those that each law states. -/
import Derived.Test.YtcpkkjbkbdmopaaDF
import Derived.Test.YtcpkkjbkbdmopaaFK
import Derived.Test.YtcpkkjbkbdmopaaFO
import Derived.Test.YtcpkkjbkbdmopaaRows

set_option linter.unusedSimpArgs false
set_option linter.unusedVariables false

/- What is handed in: rails as trees. -/
namespace Go.Proofs.Ytcpkkjbkbdmopaa
open Go Go.Ab Go.ChangeShapes Go.WideShapes Go.ChangeAt Go.RowKit

theorem own' : ownKnob Try.prog.godebug = none := by kernel_rfl
theorem laidOut' : laidOutB Try.prog = true := by kernel_rfl
theorem mapsRowed' : mapsRowed Try.prog = true := by kernel_rfl
theorem fullRows : ((List.range Try.prog.types.size).all fun t => match Try.prog.underlying t with | some (.slice e) => decide (0 < Try.prog.cellsOf e) | _ => true) = true := by kernel_rfl

abbrev kd2 : Kinds := [some .i64, some .i64]
abbrev kd4 : Kinds := [some .i64, some .i64, some .i64, some .i64]
abbrev kd6 : Kinds := [some .i64, some .i64, some .i64, some .i64, some .i64, some .i64]
theorem kc32 : kcells Try.prog 20 32 = some kd2 := by kernel_rfl
theorem kc59 : kcells Try.prog 20 59 = some kd4 := by kernel_rfl
theorem kc40 : kcells Try.prog 20 40 = some kd6 := by kernel_rfl
theorem cl32 : kd2.length = Try.prog.cellsOf 32 := by kernel_rfl
theorem cl59 : kd4.length = Try.prog.cellsOf 59 := by kernel_rfl
theorem cl40 : kd6.length = Try.prog.cellsOf 40 := by kernel_rfl
theorem cl32' : Try.prog.cellsOf 32 = 2 := by kernel_rfl
theorem cl59' : Try.prog.cellsOf 59 = 4 := by kernel_rfl
theorem cl40' : Try.prog.cellsOf 40 = 6 := by kernel_rfl
theorem cl28 : Try.prog.cellsOf 28 = 10 := by kernel_rfl
theorem cl25 : Try.prog.cellsOf 25 = 3 := by kernel_rfl
theorem cl3 : Try.prog.cellsOf 3 = 1 := by kernel_rfl
theorem cl22 : Try.prog.cellsOf 22 = 1 := by kernel_rfl
theorem cl23 : Try.prog.cellsOf 23 = 1 := by kernel_rfl
theorem cl26 : Try.prog.cellsOf 26 = 1 := by kernel_rfl
theorem wd32 : isWide Try.prog 32 = true := by kernel_rfl
theorem wd59 : isWide Try.prog 59 = true := by kernel_rfl
theorem wd40 : isWide Try.prog 40 = true := by kernel_rfl

structure Ra.Fits (r : Ra) : Prop where
  nb : r.tw.bs.length ≤ maxLen
  nh : r.tw.hs.length ≤ maxLen
  nv : r.tw.vs.length ≤ maxLen
  nl : r.lines.length ≤ maxLen
theorem Ra.Fits.lens {r : Ra} (h : r.Fits) : Lens r := by
  have h1 := h.nb
  have h2 := h.nl
  unfold maxLen at h1 h2
  exact ⟨by omega, by omega⟩

set_option maxRecDepth 100000 in
theorem spans_of {xs : List T} (h : ∀ y ∈ xs, ∃ ns, KWf kd2 ns ∧ y = elT Try.prog 32 kd2 ns) : ∃ l : List (Int × Int), xs = l.map tS ∧ l.length = xs.length := by
  induction xs with
  | nil => exact ⟨[], rfl, rfl⟩
  | cons y xs ih =>
    obtain ⟨l, e, hl⟩ := ih fun z hz => h z (by simp [hz])
    obtain ⟨ns, hy, rfl⟩ := h y (by simp)
    match ns, hy with
    | [a, b], hy =>
      refine ⟨(a, b) :: l, ?_, by simp [hl]⟩
      rw [List.map_cons, e]
      congr 1
set_option maxRecDepth 100000 in
theorem lines_of {xs : List T} (h : ∀ y ∈ xs, ∃ ns, KWf kd4 ns ∧ y = elT Try.prog 59 kd4 ns) : ∃ l : List Ln, xs = l.map tLn ∧ l.length = xs.length := by
  induction xs with
  | nil => exact ⟨[], rfl, rfl⟩
  | cons y xs ih =>
    obtain ⟨l, e, hl⟩ := ih fun z hz => h z (by simp [hz])
    obtain ⟨ns, hy, rfl⟩ := h y (by simp)
    match ns, hy with
    | [a, b, c, d], hy =>
      refine ⟨⟨a, b, c, d⟩ :: l, ?_, by simp [hl]⟩
      rw [List.map_cons, e]
      congr 1
set_option maxRecDepth 100000 in
theorem bathers_of {xs : List T} (h : ∀ y ∈ xs, ∃ ns, KWf kd6 ns ∧ y = elT Try.prog 40 kd6 ns) : ∃ l : List B, xs = l.map tB ∧ l.length = xs.length := by
  induction xs with
  | nil => exact ⟨[], rfl, rfl⟩
  | cons y xs ih =>
    obtain ⟨l, e, hl⟩ := ih fun z hz => h z (by simp [hz])
    obtain ⟨ns, hy, rfl⟩ := h y (by simp)
    match ns, hy with
    | [a, b, c, d, e', f], hy =>
      refine ⟨⟨a, b, c, d, e', f⟩ :: l, ?_, by simp [hl]⟩
      rw [List.map_cons, e]
      congr 1

set_option maxRecDepth 100000 in
theorem open_rail {H : Type} {enc : TypeId × Value → H} {W : World} {base : Nat} {v : Value} {d : DataW H} {p : List MemPlace} (hval : Value.okWide Try.prog W .any base 28 v) (h : DataW.Trod enc Try.prog W 0 (fun _ => true) true 28 v d p) :
    ∃ r : Ra, r.Fits ∧ RepT (Ab.hp (· < W.heap.size) W) (tRa r) v := by
  unfold Value.okWide at hval
  rw [Try.underlying28] at hval
  obtain ⟨cs, rfl, hsz, -⟩ := hval
  obtain ⟨fuel, h⟩ := h
  have hsz3 : cs.size = 10 := by rw [hsz, cl28]
  obtain ⟨c0, c1, c2, c3, c4, c5, c6, c7, c8, c9, rfl⟩ : ∃ c0 c1 c2 c3 c4 c5 c6 c7 c8 c9, cs = #[c0, c1, c2, c3, c4, c5, c6, c7, c8, c9] := by
    refine ⟨cs[0], cs[1], cs[2], cs[3], cs[4], cs[5], cs[6], cs[7], cs[8], cs[9], ?_⟩
    apply Array.ext
    · simp [hsz3]
    · intro i h1 h2
      have : i = 0 ∨ i = 1 ∨ i = 2 ∨ i = 3 ∨ i = 4 ∨ i = 5 ∨ i = 6 ∨ i = 7 ∨ i = 8 ∨ i = 9 := by omega
      rcases this with rfl | rfl | rfl | rfl | rfl | rfl | rfl | rfl | rfl | rfl <;> rfl
  have h' : DataW.trod enc Try.prog W 0 (fun _ => true) true fuel 28 [c0, c1, c2, c3, c4, c5, c6, c7, c8, c9] = some (d, p) := h
  obtain ⟨n, hm⟩ := trod_fields Try.underlying28 h'
  obtain ⟨y0, h0⟩ := hm 0 _ rfl
  obtain ⟨y1, h1⟩ := hm 1 _ rfl
  obtain ⟨y2, h2⟩ := hm 2 _ rfl
  obtain ⟨y3, h3⟩ := hm 3 _ rfl
  obtain ⟨y4, h4⟩ := hm 4 _ rfl
  obtain ⟨y5, h5⟩ := hm 5 _ rfl
  obtain ⟨y6, h6⟩ := hm 6 _ rfl
  obtain ⟨y7, h7⟩ := hm 7 _ rfl
  rw [cl25] at h0
  rw [cl3] at h1 h2 h3 h4 h5 h7
  rw [cl26] at h6
  obtain ⟨z1, e1, -, f1⟩ := DataW.trod_int Try.underlying3 h1
  obtain ⟨z2, e2, -, f2⟩ := DataW.trod_int Try.underlying3 h2
  obtain ⟨z3, e3, -, f3⟩ := DataW.trod_int Try.underlying3 h3
  obtain ⟨z4, e4, -, f4⟩ := DataW.trod_int Try.underlying3 h4
  obtain ⟨z5, e5, -, f5⟩ := DataW.trod_int Try.underlying3 h5
  obtain ⟨z7, e7, -, f7⟩ := DataW.trod_int Try.underlying3 h7
  have e1' : c3 = .int .i64 z1 := by simpa using e1
  have e2' : c4 = .int .i64 z2 := by simpa using e2
  have e3' : c5 = .int .i64 z3 := by simpa using e3
  have e4' : c6 = .int .i64 z4 := by simpa using e4
  have e5' : c7 = .int .i64 z5 := by simpa using e5
  have e7' : c9 = .int .i64 z7 := by simpa using e7
  subst e1' e2' e3' e4' e5' e7'
  have h0' : DataW.trod enc Try.prog W 0 (fun _ => true) true n 25 [c0, c1, c2] = some y0 := h0
  obtain ⟨n2, hm2⟩ := trod_fields Try.underlying25 h0'
  obtain ⟨u0, g0⟩ := hm2 0 _ rfl
  obtain ⟨u1, g1⟩ := hm2 1 _ rfl
  obtain ⟨u2, g2⟩ := hm2 2 _ rfl
  rw [cl22] at g0
  rw [cl23] at g1 g2
  obtain ⟨x0, w0, l0, r0, o0⟩ := trod_row1 Try.underlying22 kc40 cl40 (by rw [cl40']; decide) g0
  obtain ⟨x1, w1, l1, r1, o1⟩ := trod_row1 Try.underlying23 kc32 cl32 (by rw [cl32']; decide) g1
  obtain ⟨x2, w2, l2, r2, o2⟩ := trod_row1 Try.underlying23 kc32 cl32 (by rw [cl32']; decide) g2
  obtain ⟨x3, w3, l3, r3, o3⟩ := trod_row1 Try.underlying26 kc59 cl59 (by rw [cl59']; decide) h6
  obtain ⟨bs, rfl, lb⟩ := bathers_of w0
  obtain ⟨hs, rfl, lh⟩ := spans_of w1
  obtain ⟨vs, rfl, lv⟩ := spans_of w2
  obtain ⟨ls, rfl, ll⟩ := lines_of w3
  rw [cl40'] at r0
  rw [cl32'] at r1 r2
  rw [cl59'] at r3
  refine ⟨⟨⟨bs, hs, vs⟩, z1, z2, z3, z4, z5, ls, z7⟩, ⟨by simp only; omega, by simp only; omega, by simp only; omega, by simp only; omega⟩, ?_⟩
  unfold tRa tw3 ra7 RepT
  refine ⟨[c0, c1, c2, .int .i64 z1, .int .i64 z2, .int .i64 z3, .int .i64 z4, .int .i64 z5, c8, .int .i64 z7], rfl, ?_, fun u hu => ?_⟩
  · simp only [List.cons_append, List.nil_append]
    unfold RepTs
    refine ⟨c0, _, rfl, r0, ?_⟩
    unfold RepTs
    refine ⟨c1, _, rfl, r1, ?_⟩
    unfold RepTs
    refine ⟨c2, _, rfl, r2, ?_⟩
    unfold RepTs
    refine ⟨_, _, rfl, by unfold RepT; rfl, ?_⟩
    unfold RepTs
    refine ⟨_, _, rfl, by unfold RepT; rfl, ?_⟩
    unfold RepTs
    refine ⟨_, _, rfl, by unfold RepT; rfl, ?_⟩
    unfold RepTs
    refine ⟨_, _, rfl, by unfold RepT; rfl, ?_⟩
    unfold RepTs
    refine ⟨_, _, rfl, by unfold RepT; rfl, ?_⟩
    unfold RepTs
    refine ⟨c8, _, rfl, r3, ?_⟩
    unfold RepTs
    refine ⟨_, _, rfl, by unfold RepT; rfl, ?_⟩
    unfold RepTs
    rfl
  · simp only [List.mem_cons, List.not_mem_nil, or_false] at hu
    rcases hu with rfl | rfl | rfl | rfl | rfl | rfl | rfl | rfl | rfl | rfl
    · exact o0
    · exact o1
    · exact o2
    · rfl
    · rfl
    · rfl
    · rfl
    · rfl
    · exact o3
    · rfl

theorem u8_nat {n : Int} (h : (Lit.int .u8 n).wf = true) : ∃ w : Nat, n = w ∧ w < 256 := by
  have h1 : 0 ≤ n ∧ n ≤ 255 := by simpa [Lit.wf, IntKind.min, IntKind.max, IntKind.signed, IntKind.bits] using h
  exact ⟨n.toNat, by omega, by omega⟩
end Go.Proofs.Ytcpkkjbkbdmopaa
