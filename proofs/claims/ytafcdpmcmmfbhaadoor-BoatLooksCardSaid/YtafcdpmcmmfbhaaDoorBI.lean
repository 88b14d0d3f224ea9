/- Proved here: laws that the statements need (BoX0, BoX1). No conditions but those that each law states. -/
import Derived.Test.YtafcdpmcmmfbhaaDoorBG

set_option linter.unusedSimpArgs false
set_option linter.unusedVariables false

/- The places where a boat can be, as the statements list them. -/
namespace Go.Proofs.YtafcdpmcmmfbhaaDoor
open Go Go.Ab

theorem canM_N {b : Bo} (hb : b.OK) (boat : Nat) {m : Nat} (hm : m ≤ b.L) : canM b boat m < 2 ^ b.N := by
  refine Nat.lt_pow_two_of_testBit _ fun i hi => ?_
  rw [← Bool.not_eq_true]
  intro h
  obtain ⟨x, hx, e⟩ := (canAt_bit hb (plainQ b boat) hm i).1 h
  have := (hx.ok m (Nat.zero_le _) hm).lt
  omega
abbrev tN (l : List Nat) : T := .slice 1 (l.map fun z : Nat => vi z)
def placesL (n k : Nat) : List Nat := (List.range k).filter (n.testBit ·)
/-- What Can returns, if it is called rightly. -/
def canN (b : Bo) (boat m : Nat) : Nat := if isT b boat then canM b boat m else 0
theorem specCan_ok {b : Bo} (hok : b.ok = true) {boat m : Nat} (hB : boat < b.seen.length) (hm : m ≤ b.L) (hb : b.OK) : specCan b boat m = (((canN b boat m : Nat) : Int), if isT b boat then (0 : Int) else 10) := by
  have h1 : b.isBoat boat = true := isBoat_iff.2 ⟨by omega, by omega⟩
  have h2 : b.isMinute m = true := isMinute_iff.2 ⟨by omega, by have := hb.L; omega⟩
  unfold specCan canN
  rw [hok, h1, h2, Int.toNat_natCast, Int.toNat_natCast]
  cases isT b boat <;> rfl
set_option maxRecDepth 8000 in
set_option maxHeartbeats 4000000 in
theorem set_ok (b : Bo) (hl : Lens b) (hb : b.OK) (boat m : Nat) (hB : boat < b.seen.length) (hm : m ≤ b.L) : ACall Tryd.prog 37 [.t (.agg (bo5 b)), .t (vi boat), .t (vi m)] [] (res (.ret (.tup [.t (tN (placesL (canN b boat m) b.N)), .t (vb (isT b boat))]))) := by
  refine ACall.walk k37 ?_
  have hok := (b.ok_iff).2 hb
  have h16 := Can_ok b hl boat m
  rw [specCan_ok hok hB hm hb] at h16
  have h35 := places_ok b
  have hN := hb.N
  rw [hN.2.2, wrap_id (n := (b.N : Int)) (by omega) (by omega)] at h35
  have hlt : canN b boat m < B48 := by unfold canN; split; exact canM_lt hb _ _; exact Nat.two_pow_pos 48
  have hlt' : canN b boat m < 9223372036854775808 := Nat.lt_of_lt_of_le hlt (by decide)
  have hT : isT b boat = true → (placesL (canN b boat m) b.N).length ≠ 0 ∧ ((canN b boat m : Nat) : Int).fdiv (2 ^ (min b.N 64)) = 0 := fun hT => by
    have e : canN b boat m = canM b boat m := by unfold canN; rw [hT]; rfl
    have h1 := canM_N hb boat hm
    rw [e]
    obtain ⟨i, hi⟩ := (ne0_iff _).1 ((canAt_ne0 hb (plainQ b boat) hm).2 ((canQ_iff hb _).1 hT))
    obtain ⟨x, hx, ex⟩ := (canAt_bit hb (plainQ b boat) hm i).1 hi
    have hiN : i < b.N := by have := (hx.ok m (Nat.zero_le _) hm).lt; omega
    refine ⟨fun h => ?_, ?_⟩
    · have : i ∈ placesL (canM b boat m) b.N := List.mem_filter.2 ⟨List.mem_range.2 hiN, hi⟩
      rw [List.eq_nil_of_length_eq_zero h] at this
      cases this
    · rw [Nat.min_eq_left (by omega), show ((2 : Int) ^ b.N) = ((2 ^ b.N : Nat) : Int) by push_cast; rfl, Int.fdiv_eq_ediv_of_nonneg _ (by omega), ← Int.natCast_ediv, Nat.div_eq_of_lt h1]
      rfl
  generalize canN b boat m = n at *
  generalize isT b boat = is at *
  unfold c37
  unfold bo5 at h16 h35 ⊢
  simp only [go_sem, Nat.reduceEqDiff, Nat.reduceAdd, oneE] at h16 ⊢
  refine ACallL.quiet1 h16 rfl rfl rfl ?_
  simp only [go_sem, Nat.reduceEqDiff, Nat.reduceAdd]
  refine ACallL.quiet1 h35 rfl rfl rfl ?_
  simp only [go_sem]
  refine awpL_for (i := 21) (L := 20) b.N (fun j st => st = { env := [(21, .t (vi j)), (20, .t (vi b.N)), (10, .loc 1 (placesL n j).length), (9, .t (vi (if is then 0 else 10))), (8, .t (vi n)), (3, .ptr 0 0)], σ := [.cells ((bo5 b).map .t), .row 1 (((placesL n j).map fun z : Nat => vi z).map .t)] }) ?_ ⟨_, Sub.trans (Sub.ghost 10 1 (by decide) rfl) (Sub.gc [0, 1] [21, 20, 10, 9, 8, 3] rfl rfl), rfl⟩ ?_ ?_
  · rintro k st rfl; exact ⟨rfl, rfl⟩
  · rintro j st hj rfl
    have hwj : IntKind.i64.wrap ((j : Int) + 1) = ((j + 1 : Nat) : Int) := by rw [wrap_id (by omega) (by omega)]; omega
    have hjn : ((j : Int) < 0) = False := by simp
    have hbt := bit_eq (a := n) (i := j) hlt'
    have hs : placesL n (j + 1) = if n.testBit j then placesL n j ++ [j] else placesL n j := by
      unfold placesL
      rw [List.range_succ, List.filter_append]
      cases h : n.testBit j <;> simp [h]
    have hpl : (placesL n j).length ≤ j := Nat.le_trans (List.length_filter_le _ _) (by simp)
    simp only [bo5, go_sem, Nat.reduceEqDiff, hjn, hbt]
    cases ht : n.testBit j
    · rw [ht] at hs
      simp only [Bool.false_eq_true, if_false] at hs
      simp only [bo5, go_sem, Nat.reduceEqDiff, hwj]
      refine ⟨_, Sub.gc [0, 1] [21, 20, 10, 9, 8, 3] rfl rfl, ?_⟩
      rw [hs]
      refine St.gc_mk rfl ?_ rfl rfl
      simp only [σgc, List.map_cons, List.map_nil, List.getD_cons_zero, List.getD_cons_succ, AO.gc, gc_row]
      rfl
    · rw [ht, if_pos rfl] at hs
      simp only [bo5, go_sem, Nat.reduceEqDiff, Nat.reduceAdd, Nat.reduceLT, hwj, List.length_map]
      refine ⟨⟨Nat.le_trans (show _ ≤ 48 by omega) (by decide), by omega⟩, _, Sub.gc [0, 1] [21, 20, 10, 9, 8, 3] rfl rfl, ?_⟩
      rw [hs]
      rw [show ((placesL n j).map fun z : Nat => vi z).map E.t ++ [E.t (vi (j : Int))] = ((placesL n j ++ [j]).map fun z : Nat => vi z).map E.t by simp]
      refine St.gc_mk ?_ ?_ rfl rfl
      · rw [List.length_append]; rfl
      · simp only [σgc, List.map_cons, List.map_nil, List.getD_cons_zero, List.getD_cons_succ, AO.gc, gc_row]
        rfl
  rintro st rfl
  cases is
  · simp only [bo5, go_sem, Nat.reduceEqDiff, Int.reduceBEq, undef, undef]
    refine finL_ret [] ⟨rfl, rfl, rfl, rfl, .tup [.loc 1 (placesL n b.N).length, .t (vb false)], rfl, res_mk ?_⟩
    rw [E.gc]
    simp only [List.map_cons, List.map_nil]
    rw [gc_loc (n := 9) (es := 1) (xs := (placesL n b.N).map fun z : Nat => vi z) rfl rfl (by simp)]
    rfl
  · obtain ⟨hT1, hT2⟩ := hT rfl
    have hT1' : decide (((placesL n b.N).length : Int) > 0) = true := decide_eq_true (by omega)
    have hNn : ((b.N : Int) < 0) = False := by simp
    simp only [bo5, go_sem, Nat.reduceEqDiff, Nat.reduceAdd, beq_self_eq_true, List.length_map, hT1']
    refine ACallL.quiet1 h35 rfl rfl rfl ?_
    simp only [go_sem, Nat.reduceEqDiff, undef, beq_self_eq_true, undef, hNn, hT2, List.length_map]
    refine finL_ret [] ⟨rfl, rfl, rfl, rfl, .tup [.loc 1 (placesL n b.N).length, .t (vb true)], rfl, res_mk ?_⟩
    rw [E.gc]
    simp only [List.map_cons, List.map_nil]
    rw [gc_loc (n := 9) (es := 1) (xs := (placesL n b.N).map fun z : Nat => vi z) rfl rfl (by simp)]
    rfl
end Go.Proofs.YtafcdpmcmmfbhaaDoor

/- Plain laws: a boat with fewer truths, and one with more. -/
namespace Go.Proofs.YtafcdpmcmmfbhaaDoor
open Go Go.Ab

/-- Each truth of the boat i of b, in rows from one on, is one of the boat j of x. -/
structure Less (b : Bo) (i : Nat) (x : Bo) (j : Nat) : Prop where
  W : x.W = b.W
  D : x.D = b.D
  L : x.L = b.L
  tr : ∀ row c, TrQ b (rowQ b i row) c → TrQ x (rowQ x j row) c
theorem rowQ_zero (b : Bo) (i : Nat) : rowQ b i 0 = plainQ b i := rfl
theorem Less.can {b x : Bo} {i j : Nat} (h : Less b i x j) (hb : b.OK) (hx : x.OK) (row : Nat) : canQ b (rowQ b i row) = true → canQ x (rowQ x j row) = true := fun hc => by
  obtain ⟨c, hc⟩ := (canQ_iff hb _).1 hc
  exact (canQ_iff hx _).2 ⟨c, h.tr row c hc⟩
theorem Less.told {b x : Bo} {i j : Nat} (h : Less b i x j) (hb : b.OK) (hx : x.OK) : isT b i = true → isT x j = true := h.can hb hx 0
theorem Less.at' {b x : Bo} {i j : Nat} (h : Less b i x j) (hb : b.OK) (hx : x.OK) {m : Nat} (hm : m ≤ b.L) (p : Nat) : (canM b i m).testBit p = true → (canM x j m).testBit p = true := fun hp => by
  obtain ⟨c, hc, e⟩ := (canAt_bit hb (plainQ b i) hm p).1 hp
  exact (canAt_bit hx (plainQ x j) (by rw [h.L]; exact hm) p).2 ⟨c, h.tr 0 c hc, e⟩
theorem nearHi_spec {b : Bo} (hb : b.OK) (i : Nat) : (nearHi b i ≤ b.D ∧ canQ b (rowQ b i (nearHi b i + 1)) = false) ∧ ∀ k < nearHi b i, canQ b (rowQ b i (k + 1)) = true := by
  have hlast : canQ b (rowQ b i (b.D + 1)) = false := by
    rw [← Bool.not_eq_true, canQ_iff hb]
    rintro ⟨c, hc⟩
    have h := hc.ok 0 (Nat.le_refl _) (Nat.zero_le _)
    have h1 := h.lt
    have h2 : b.D + 1 ≤ c 0 / b.W := h.row
    have h3 : c 0 / b.W < b.D := Nat.div_lt_of_lt_mul (by unfold Bo.N at h1; exact h1)
    omega
  unfold nearHi
  cases hf : (List.range (b.D + 1)).find? fun n => !canQ b (rowQ b i (n + 1)) with
  | none =>
    exfalso
    have := List.find?_eq_none.1 hf b.D (List.mem_range.2 (Nat.lt_succ_self _))
    rw [hlast] at this
    simp at this
  | some k =>
    obtain ⟨h1, n, hn, e, h3⟩ := List.find?_eq_some_iff_getElem.1 hf
    simp only [List.length_range] at hn
    rw [List.getElem_range] at e
    subst e
    rw [Option.getD_some]
    refine ⟨⟨by omega, by simpa using h1⟩, fun k hk => ?_⟩
    have := h3 k hk
    rw [List.getElem_range] at this
    simpa using this
theorem Less.hi {b x : Bo} {i j : Nat} (h : Less b i x j) (hb : b.OK) (hx : x.OK) : nearHi b i ≤ nearHi x j := by
  apply Classical.byContradiction
  intro c
  have h1 := h.can hb hx _ ((nearHi_spec hb i).2 (nearHi x j) (by omega))
  rw [(nearHi_spec hx j).1.2] at h1
  cases h1
theorem near_lo {b : Bo} (hb : b.OK) {i : Nat} (hT : isT b i = true) : (∃ m ≤ b.L, ∃ p, (canM b i m).testBit p = true ∧ p / b.W = loR b (nearAll b i)) ∧ ∀ m ≤ b.L, ∀ p, (canM b i m).testBit p = true → loR b (nearAll b i) ≤ p / b.W := by
  obtain ⟨⟨p, h1, h2⟩, h3⟩ := span_lo (b := b) (nearAll_lt hb i) (nearAll_ne hb hT)
  refine ⟨?_, fun m hm q hq => h3 q ((nearAll_bit hb i q).2 ⟨m, hm, hq⟩)⟩
  obtain ⟨m, hm, h4⟩ := (nearAll_bit hb i p).1 h1
  exact ⟨m, hm, p, h4, h2⟩
theorem Less.lo {b x : Bo} {i j : Nat} (h : Less b i x j) (hb : b.OK) (hx : x.OK) (hT : isT b i = true) : loR x (nearAll x j) ≤ loR b (nearAll b i) := by
  obtain ⟨⟨m, hm, p, h1, h2⟩, _⟩ := near_lo hb hT
  have := (near_lo hx (h.told hb hx hT)).2 m (by rw [h.L]; exact hm) p (h.at' hb hx hm p h1)
  rw [h.W] at this
  omega

/-! ### The specs, told of boats that are there -/
theorem specNearest_ok {b : Bo} (hb : b.OK) {i : Nat} (hi : i < b.seen.length) : specNearest b i = if isT b i then (nearS b i, 0) else ((0, 0), 10) := by
  have h1 : b.isBoat i = true := isBoat_iff.2 ⟨by omega, by omega⟩
  unfold specNearest
  rw [(b.ok_iff).2 hb, h1, Int.toNat_natCast]; rfl
theorem specSpeed_ok {b : Bo} (hb : b.OK) {i : Nat} (hi : i < b.seen.length) : specSpeed b i = match speedR b i with | some n => ((n : Nat), 0) | none => (0, 4) := by
  have h1 : b.isBoat i = true := isBoat_iff.2 ⟨by omega, by omega⟩
  unfold specSpeed
  rw [(b.ok_iff).2 hb, h1, Int.toNat_natCast]; rfl

/-! ### Other speeds -/
abbrev withSp (b : Bo) (k : Nat) : Bo := { b with speed := k }
theorem withSp_OK {b : Bo} (hb : b.OK) {k : Nat} (hk : k ≤ 3) : (withSp b k).OK := by
  have hsaw : ∀ (l : List Si) (m : Int), sawB (withSp b k) m l = sawB b m l := by
    intro l
    induction l with
    | nil => intro m; rfl
    | cons s l ih => intro m; unfold sawB; rw [ih]; rfl
  exact ⟨hb.wide, hb.deep, ⟨by simp, by simp; omega⟩, hb.last, hb.num, hb.lens, fun l hl => by rw [hsaw]; exact hb.saw l hl⟩
theorem tr_speed {b : Bo} {k : Nat} {q q' : Qu} {c : Nat → Nat} (hbo : q'.boat = q.boat) (hw : q'.without = q.without) (hr : q'.row = q.row) (hs : q.speed ≤ q'.speed) (h : TrQ b q c) : TrQ (withSp b k) q' c := by
  obtain ⟨b1, w1, r1, s1⟩ := q
  obtain ⟨b2, w2, r2, s2⟩ := q'
  simp only at hbo hw hr hs
  subst hbo hw hr
  exact ⟨fun j h1 h2 => ⟨(h.ok j h1 h2).lt, (h.ok j h1 h2).row, (h.ok j h1 h2).saw⟩, fun j h1 h2 => Nat.le_trans (h.near j h1 h2) hs⟩
theorem tr_back {b : Bo} {k : Nat} {q : Qu} {c : Nat → Nat} (h : TrQ (withSp b k) q c) : TrQ b q c :=
  ⟨fun j h1 h2 => ⟨(h.ok j h1 h2).lt, (h.ok j h1 h2).row, (h.ok j h1 h2).saw⟩, fun j h1 h2 => h.near j h1 h2⟩
theorem can_speed {b : Bo} (hb : b.OK) {k : Nat} (hk : k ≤ 3) (i : Nat) : isT (withSp b k) i = canQ b (speedQ i k) := by
  rw [Bool.eq_iff_iff, canQ_iff hb, canQ_iff (withSp_OK hb hk)]
  have e : plainQ (withSp b k) i = speedQ i k := by unfold plainQ speedQ; simp
  rw [e]
  exact ⟨fun ⟨c, h⟩ => ⟨c, tr_back h⟩, fun ⟨c, h⟩ => ⟨c, tr_speed rfl rfl rfl (Nat.le_refl _) h⟩⟩
theorem speed_mono {b : Bo} (hb : b.OK) {i n k : Nat} (h : n ≤ k) (hn : canQ b (speedQ i n) = true) : canQ b (speedQ i k) = true := by
  obtain ⟨c, hc⟩ := (canQ_iff hb _).1 hn
  exact (canQ_iff hb _).2 ⟨c, ⟨fun j h1 h2 => ⟨(hc.ok j h1 h2).lt, (hc.ok j h1 h2).row, (hc.ok j h1 h2).saw⟩, fun j h1 h2 => Nat.le_trans (hc.near j h1 h2) h⟩⟩
theorem speedR_spec {b : Bo} (hb : b.OK) (i : Nat) : match speedR b i with
    | some n => n ≤ 3 ∧ ∀ k ≤ 3, canQ b (speedQ i k) = decide (n ≤ k)
    | none => ∀ k ≤ 3, canQ b (speedQ i k) = false := by
  unfold speedR
  cases hf : (List.range 4).find? fun n => canQ b (speedQ i n) with
  | none =>
    intro k hk
    have := List.find?_eq_none.1 hf k (List.mem_range.2 (by omega))
    simpa using this
  | some n =>
    obtain ⟨h1, m, hm, e, h3⟩ := List.find?_eq_some_iff_getElem.1 hf
    simp only [List.length_range] at hm
    rw [List.getElem_range] at e
    subst e
    refine ⟨by omega, fun k hk => ?_⟩
    by_cases c : m ≤ k
    · rw [decide_eq_true c, speed_mono hb c h1]
    · rw [decide_eq_false c]
      have := h3 k (by omega)
      rw [List.getElem_range] at this
      simpa using this
theorem less_speed {b : Bo} (hb : b.OK) {k : Nat} (hk : k ≤ 3) (hs : b.speed ≤ k) (i : Nat) : Less b i (withSp b k) i :=
  ⟨rfl, rfl, rfl, fun row c h => tr_speed (q := rowQ b i row) rfl rfl rfl (by unfold rowQ plainQ; simp only [Int.toNat_natCast]; have := hb.speed; omega) h⟩
theorem mod_nat (a n : Nat) : (a : Int).tmod (n : Int) = ((a % n : Nat) : Int) := by rw [Int.tmod_eq_emod_of_nonneg (by omega)]; rfl
theorem sub_andNot {a c : Nat} (ha : a < 9223372036854775808) (hc : c < 9223372036854775808) (h : ∀ p, a.testBit p = true → c.testBit p = true) : (bits .andNot .i64 (a : Int) (c : Int) == 0) = true := by
  rw [bits_andNot ha hc, beq_iff_eq]
  have : ndiff a c = 0 := by
    apply Nat.eq_of_testBit_eq
    intro i
    rw [ndiff_bit, Nat.zero_testBit]
    cases h1 : a.testBit i
    · rfl
    · rw [h i h1]; rfl
  rw [this]; rfl
def spP (r : Option Nat) : Int × Int := match r with | some n => ((n : Nat), 0) | none => (0, 4)
end Go.Proofs.YtafcdpmcmmfbhaaDoor
