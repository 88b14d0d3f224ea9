/- Proved here: laws that the statements need (WaZ1, WaZ2). No conditions but those that each law states. -/
import Derived.Test.YtnmmhkkmejbckaaDoorEO
import Derived.Test.YtnmmhkkmejbckaaDoorEN
import Derived.Test.YtnmmhkkmejbckaaDoorED

set_option linter.unusedSimpArgs false
set_option linter.unusedVariables false

/- Watches numbered otherwise: owners, finds and huts from the other end. Plain laws. -/
namespace Go.Proofs.YtnmmhkkmejbckaaDoor
open Go Go.Ab

/-- A set, numbered from the other end. -/
def revB (n x : Nat) : Nat := maskW (fun i => x.testBit (n - 1 - i)) n
theorem revB_bit (n x i : Nat) : (revB n x).testBit i = (decide (i < n) && x.testBit (n - 1 - i)) := maskW_bit _ n i
theorem revB_lt (n x : Nat) : revB n x < 2 ^ n := maskW_lt _ n
theorem revB_rev {n x : Nat} (hx : ∀ i, x.testBit i = true → i < n) : revB n (revB n x) = x := by
  apply Nat.eq_of_testBit_eq
  intro i
  rw [revB_bit, revB_bit]
  by_cases h : i < n
  · rw [decide_eq_true h, decide_eq_true (show n - 1 - i < n by omega), Bool.true_and, Bool.true_and, show n - 1 - (n - 1 - i) = i by omega]
  · rw [decide_eq_false h, Bool.false_and]
    cases hb : x.testBit i
    · rfl
    · exact absurd (hx i hb) h
theorem revB_size : ∀ n : Nat, n < 6 → ∀ x : Nat, x < 32 → x < 2 ^ n → size (revB n x) = size x := by decide +kernel
theorem revB_one {n k : Nat} (hk : k < n) : revB n (2 ^ k) = 2 ^ (n - 1 - k) := by
  apply Nat.eq_of_testBit_eq
  intro i
  rw [revB_bit, Nat.testBit_two_pow, Nat.testBit_two_pow]
  by_cases h : i < n
  · rw [decide_eq_true h, Bool.true_and]
    exact decide_eq_decide.2 (by omega)
  · rw [decide_eq_false h, Bool.false_and]
    exact (decide_eq_false (by omega)).symm

/-! ### Fits, turned -/
def turnL (n : Nat) (F : List Nat) : List Nat := (F.map (revB n)).reverse
theorem turnL_len (n : Nat) (F : List Nat) : (turnL n F).length = F.length := by simp [turnL]
theorem turnL_get {n : Nat} {F : List Nat} {p : Nat} (hp : p < F.length) : (turnL n F).getD p 0 = revB n (F.getD (F.length - 1 - p) 0) := by
  unfold turnL
  rw [List.getD_eq_getElem?_getD, List.getElem?_reverse (by simpa using hp), List.length_map, List.getElem?_map, List.getD_eq_getElem?_getD, List.getElem?_eq_getElem (by omega)]
  rfl
def Below (n : Nat) (F : List Nat) : Prop := ∀ x ∈ F, ∀ i, x.testBit i = true → i < n
theorem Below.at {n : Nat} {F : List Nat} (h : Below n F) {p i : Nat} (hb : (F.getD p 0).testBit i = true) : i < n := by
  rw [List.getD_eq_getElem?_getD] at hb
  cases hx : F[p]? with
  | none => rw [hx] at hb; simp at hb
  | some x => rw [hx] at hb; exact h x (List.mem_of_getElem? hx) i hb
theorem turnL_below (n : Nat) (F : List Nat) : Below n (turnL n F) := by
  intro x hx i hi
  unfold turnL at hx
  rw [List.mem_reverse] at hx
  obtain ⟨y, -, rfl⟩ := List.mem_map.1 hx
  rw [revB_bit, Bool.and_eq_true, decide_eq_true_eq] at hi
  exact hi.1
theorem turnL_turn {n : Nat} {F : List Nat} (h : Below n F) : turnL n (turnL n F) = F := by
  unfold turnL
  rw [List.map_reverse, List.reverse_reverse, List.map_map]
  conv => rhs; rw [← List.map_id F]
  refine List.map_congr_left fun x hx => ?_
  exact revB_rev (h x hx)
def turnT (n : Nat) (l : List Nat) : List Nat := (l.map fun i => n - 1 - i).reverse
theorem turnT_mem {n : Nat} (hn : n ≤ 5) {F : List Nat} (h : Below n F) {l : List Nat} (hl : l ∈ truths F) : turnT n l ∈ truths (turnL n F) := by
  obtain ⟨a, b, c⟩ := truths_mem.1 hl
  have hb : ∀ i ∈ l, i < n := fun i hi => by
    obtain ⟨p, hp⟩ := List.getElem?_of_mem hi
    exact h.at (c p i hp).1
  refine truths_mem.2 ⟨by unfold turnT; rw [turnL_len, List.length_reverse, List.length_map, a], ?_, fun p i hp => ?_⟩
  · unfold turnT
    exact (List.reverse_perm _).symm.nodup <| nodup_map_inj (fun x hx y hy e => by have := hb x hx; have := hb y hy; omega) b
  · have hpl : p < F.length := by
      have := (List.getElem?_eq_some_iff.1 hp).1
      unfold turnT at this
      rw [List.length_reverse, List.length_map] at this
      omega
    unfold turnT at hp
    rw [List.getElem?_reverse (by rw [List.length_map]; omega), List.length_map, List.getElem?_map, a] at hp
    cases hx : l[F.length - 1 - p]? with
    | none => rw [hx] at hp; cases hp
    | some x =>
      rw [hx] at hp
      cases hp
      have h1 := c _ _ hx
      have h2 := hb x (List.mem_of_getElem? hx)
      rw [turnL_get hpl, revB_bit, decide_eq_true (show n - 1 - x < n by omega), Bool.true_and, show n - 1 - (n - 1 - x) = x by omega]
      exact ⟨h1.1, show n - 1 - x < 5 by omega⟩
theorem ways_turn {n : Nat} (hn : n ≤ 5) {F : List Nat} (h : Below n F) : waysN (turnL n F) = waysN F := by
  have key : ∀ G : List Nat, Below n G → waysN G ≤ waysN (turnL n G) := fun G hG => by
    refine ways_le (turnT n) (fun l hl => turnT_mem hn hG hl) fun a ha b hb e => ?_
    have hlt : ∀ l ∈ truths G, ∀ i ∈ l, i < n := fun l hl i hi => by
      obtain ⟨-, -, c⟩ := truths_mem.1 hl
      obtain ⟨p, hp⟩ := List.getElem?_of_mem hi
      exact hG.at (c p i hp).1
    unfold turnT at e
    have e2 := List.reverse_inj.1 e
    have inv : ∀ l ∈ truths G, (l.map fun i => n - 1 - i).map (fun i => n - 1 - i) = l := fun l hl => by
      rw [List.map_map]
      conv => rhs; rw [← List.map_id l]
      refine List.map_congr_left fun i hi => ?_
      have := hlt l hl i hi
      simp only [Function.comp, id]
      omega
    rw [← inv a ha, ← inv b hb, e2]
  have h1 := key F h
  have h2 := key _ (turnL_below n F)
  rw [turnL_turn h] at h2
  omega
theorem whose_turn {n : Nat} (hn : n ≤ 5) {F : List Nat} (h : Below n F) (h4 : F.length ≤ 4) {p : Nat} (hp : p < F.length) : (whoseL (turnL n F)).getD p 0 = revB n ((whoseL F).getD (F.length - 1 - p) 0) := by
  have one : ∀ (G : List Nat), Below n G → G.length ≤ 4 → ∀ p, p < G.length → ∀ i, ((whoseL G).getD (G.length - 1 - p) 0).testBit i = true → i < n ∧ ((whoseL (turnL n G)).getD p 0).testBit (n - 1 - i) = true := fun G hG hG4 p hp i hi => by
    rw [whose_bit _ (by omega)] at hi
    obtain ⟨l, h1, h2⟩ := hi
    obtain ⟨a, -, c⟩ := truths_mem.1 h1
    have h3 := hG.at (c _ _ h2).1
    refine ⟨h3, ?_⟩
    rw [whose_bit _ (by omega)]
    refine ⟨_, turnT_mem hn hG h1, ?_⟩
    unfold turnT
    rw [List.getElem?_reverse (by rw [List.length_map]; omega), List.length_map, List.getElem?_map, a, h2]
    rfl
  apply Nat.eq_of_testBit_eq
  intro i
  rw [revB_bit, Bool.eq_iff_iff, Bool.and_eq_true, decide_eq_true_eq]
  constructor
  · intro hi
    have e1 : (turnL n F).length - 1 - (F.length - 1 - p) = p := by rw [turnL_len]; omega
    obtain ⟨a, b⟩ := one (turnL n F) (turnL_below n F) (by rw [turnL_len]; exact h4) (F.length - 1 - p) (by rw [turnL_len]; omega) i (by rw [e1]; exact hi)
    rw [turnL_turn h] at b
    exact ⟨a, b⟩
  · rintro ⟨a, b⟩
    obtain ⟨-, c⟩ := one F h h4 p hp _ b
    rwa [show n - 1 - (n - 1 - i) = i by omega] at c
theorem less_turn {n q : Nat} (hq : q < n) {F : List Nat} : lessL (turnL n F) (n - 1 - q) = turnL n (lessL F q) := by
  unfold lessL turnL
  rw [List.map_reverse, List.map_map, List.map_map]
  congr 1
  refine List.map_congr_left fun x _ => ?_
  simp only [Function.comp]
  apply Nat.eq_of_testBit_eq
  intro i
  rw [ndiff_bit, revB_bit, revB_bit, ndiff_bit, Nat.testBit_two_pow, Nat.testBit_two_pow]
  by_cases h : i < n
  · rw [decide_eq_true h, Bool.true_and, Bool.true_and]
    congr 2
    exact decide_eq_decide.2 (by omega)
  · rw [decide_eq_false h]; rfl
theorem less_below {n : Nat} {F : List Nat} (h : Below n F) (q : Nat) : Below n (lessL F q) := by
  intro x hx i hi
  unfold lessL at hx
  obtain ⟨y, hy, rfl⟩ := List.mem_map.1 hx
  rw [ndiff_bit, Bool.and_eq_true] at hi
  exact h y hy i hi.1

/-! ### Clashes, turned -/
theorem pick_turn {n : Nat} (hn : n ≤ 5) {F : List Nat} (h : Below n F) {s : Nat} (hz : waysN (pick F s) ≠ 0) : waysN (pick (turnL n F) (revB F.length s)) ≠ 0 := by
  have b5 : ∀ G : List Nat, Below n G → ∀ x ∈ G, ∀ o, x.testBit o = true → o < 5 := fun G hG x hx o ho => by have := hG x hx o ho; omega
  obtain ⟨φ, h1, h2⟩ := (pick_ways (b5 F h)).1 hz
  refine (pick_ways (b5 _ (turnL_below n F))).2 ⟨fun j => n - 1 - φ (F.length - 1 - j), fun j hj => ?_, fun a b ha hb e => ?_⟩
  · rw [turnL_len, revB_bit, Bool.and_eq_true] at hj
    have h3 := h1 (F.length - 1 - j) ⟨by omega, hj.2.2⟩
    have h4 := h.at h3
    rw [turnL_get hj.1, revB_bit, decide_eq_true (show n - 1 - φ (F.length - 1 - j) < n by omega), Bool.true_and, show n - 1 - (n - 1 - φ (F.length - 1 - j)) = φ (F.length - 1 - j) by omega]
    exact h3
  · rw [turnL_len, revB_bit, Bool.and_eq_true] at ha hb
    have ha3 : F.length - 1 - a < F.length ∧ s.testBit (F.length - 1 - a) = true := ⟨by omega, ha.2.2⟩
    have hb3 : F.length - 1 - b < F.length ∧ s.testBit (F.length - 1 - b) = true := ⟨by omega, hb.2.2⟩
    have ha4 := h.at (h1 _ ha3)
    have hb4 := h.at (h1 _ hb3)
    simp only at e
    have := h2 _ _ ha3 hb3 (by omega)
    omega
theorem bits_lt {m s : Nat} (hs : s < 2 ^ m) : ∀ i, s.testBit i = true → i < m := fun i hi => by
  rcases Nat.lt_or_ge i m with a | a
  · exact a
  · rw [Nat.testBit_lt_two_pow (Nat.lt_of_lt_of_le hs (Nat.pow_le_pow_right (n := 2) (by omega) a))] at hi
    cases hi
theorem pick_turn0 {n : Nat} (hn : n ≤ 5) {F : List Nat} (h : Below n F) {s : Nat} (hs : s < 2 ^ F.length) (hz : waysN (pick F s) = 0) : waysN (pick (turnL n F) (revB F.length s)) = 0 := by
  rcases Nat.eq_zero_or_pos (waysN (pick (turnL n F) (revB F.length s))) with h0 | h0
  · exact h0
  · have := pick_turn hn (turnL_below n F) (s := revB F.length s) (by omega)
    rw [turnL_turn h, turnL_len, revB_rev (bits_lt hs)] at this
    exact absurd hz this
/-- As many clash. -/
theorem clash_turn {n : Nat} (hn : n ≤ 5) {F : List Nat} (h : Below n F) (h4 : F.length ≤ 4) (hz : waysN F = 0) : ∃ s s', clashF F = some s ∧ clashF (turnL n F) = some s' ∧ s < 16 ∧ s' < 16 ∧ size s = size s' := by
  obtain ⟨s, a1, a2, -, a4, a5⟩ := clash_law h4 hz
  obtain ⟨s', b1, b2, -, b4, b5⟩ := clash_law (f := turnL n F) (by rw [turnL_len]; exact h4) (by rw [ways_turn hn h]; exact hz)
  rw [turnL_len] at b2 b5
  have h16 : 2 ^ F.length ≤ 2 ^ 4 := Nat.pow_le_pow_right (by omega) h4
  have c1 := b5 (revB F.length s) (revB_lt _ _) (pick_turn0 hn h a2 a4)
  have d := pick_turn0 hn (turnL_below n F) (s := s') (by rw [turnL_len]; exact b2) b4
  rw [turnL_turn h, turnL_len] at d
  have c2 := a5 (revB F.length s') (revB_lt _ _) d
  rw [revB_size _ (by omega) s (by omega) a2] at c1
  rw [revB_size _ (by omega) s' (by omega) b2] at c2
  exact ⟨s, s', a1, b1, by omega, by omega, by omega⟩

/-! ### The watches -/
def tuO (o : Ow) : Ow := { o with huts := ((revB 6 o.huts.toNat : Nat) : Int) }
def tuF (f : Fi) : Fi := { f with hut := 5 - f.hut }
def tuW (w : Wa) : Wa := { os := (w.os.map tuO).reverse, fs := (w.fs.map tuF).reverse }
theorem tuO_OK {o : Ow} (h : o.OK) : (tuO o).OK := ⟨h.set_, h.gain, by
  have := revB_lt 6 o.huts.toNat
  unfold tuO
  simp only
  omega⟩
theorem tuF_OK {f : Fi} (h : f.OK) : (tuF f).OK := ⟨by
  have := h.hut
  unfold tuF
  simp only
  omega, h.minute, h.shows⟩
theorem tuW_OK {w : Wa} (hw : w.OK) : (tuW w).OK := by
  refine ⟨by unfold tuW; simp only [List.length_reverse, List.length_map]; exact hw.no, by unfold tuW; simp only [List.length_reverse, List.length_map]; exact hw.nf, fun o ho => ?_, fun f hf => ?_⟩
  · unfold tuW at ho
    simp only [List.mem_reverse] at ho
    obtain ⟨x, hx, rfl⟩ := List.mem_map.1 ho
    exact tuO_OK (hw.os x hx)
  · unfold tuW at hf
    simp only [List.mem_reverse] at hf
    obtain ⟨x, hx, rfl⟩ := List.mem_map.1 hf
    exact tuF_OK (hw.fs x hx)
theorem fit_tu (o : Ow) {f : Fi} (hf : f.OK) : fitB (tuO o) (tuF f) = fitB o f := by
  rw [fitB_split, fitB_split]
  congr 1
  unfold hutB tuO tuF
  have := hf.hut
  simp only [Int.toNat_natCast]
  rw [revB_bit, decide_eq_true (show (5 - f.hut).toNat < 6 by omega), Bool.true_and, show 6 - 1 - (5 - f.hut).toNat = f.hut.toNat by omega]
theorem fits_tu {w : Wa} (hw : w.OK) : (tuW w).fits = turnL w.os.length w.fits := by
  unfold Wa.fits tuW turnL
  simp only
  rw [List.map_reverse, List.map_map, List.map_map]
  congr 1
  refine List.map_congr_left fun f hf => ?_
  simp only [Function.comp]
  apply Nat.eq_of_testBit_eq
  intro i
  rw [fitN_bit, revB_bit, fitN_bit]
  by_cases h : i < w.os.length
  · rw [decide_eq_true h, Bool.true_and]
    unfold fitP
    rw [List.getElem?_reverse (by simpa using h), List.length_map, List.getElem?_map, List.getElem?_eq_getElem (show w.os.length - 1 - i < w.os.length by omega)]
    exact fit_tu _ (hw.fs f hf)
  · rw [decide_eq_false h, Bool.false_and]
    exact fitP_no (by simp; omega)
theorem fits_below (w : Wa) : Below w.os.length w.fits := by
  intro x hx i hi
  unfold Wa.fits at hx
  obtain ⟨f, -, rfl⟩ := List.mem_map.1 hx
  rw [fitN_bit] at hi
  rcases Nat.lt_or_ge i w.os.length with a | a
  · exact a
  · rw [fitP_no a] at hi; cases hi
theorem whose_below {n : Nat} {F : List Nat} (h : Below n F) {p : Nat} (hp : p < 4) : ∀ i, ((whoseL F).getD p 0).testBit i = true → i < n := fun i hi => by
  rw [whose_bit _ hp] at hi
  obtain ⟨l, h1, h2⟩ := hi
  obtain ⟨-, -, c⟩ := truths_mem.1 h1
  exact h.at (c _ _ h2).1
theorem lt_pow : ∀ n : Nat, n < 6 → ∀ x : Nat, x < 64 → (∀ i, i < 6 → x.testBit i = true → i < n) → x < 2 ^ n := by
  intro n hn x hx h
  apply Nat.lt_pow_two_of_testBit
  intro i hi
  cases hb : x.testBit i
  · rfl
  · have h6 := bits6 hx hb
    have := h i h6 hb
    omega
/-- Whose a find surely is, turned. -/
theorem sole_turn {n x : Nat} (hn : n ≤ 5) (hx : x < 64) (hb : ∀ i, x.testBit i = true → i < n) : soleI (revB n x) = if soleI x < 0 then -1 else (n : Int) - 1 - soleI x := by
  have h1 := lt_pow n (by omega) x hx (fun i _ h => hb i h)
  have h2 : 2 ^ n ≤ 2 ^ 5 := Nat.pow_le_pow_right (by omega) hn
  have hs := revB_size n (by omega) x (by omega) h1
  unfold soleI
  rw [hs]
  by_cases h : size x = 1
  · rw [if_pos h, if_pos h, if_neg (by omega)]
    obtain ⟨e, -⟩ := size_one x hx h
    have hk : x.log2 < n := hb _ (by rw [e, Nat.log2_two_pow, Nat.testBit_two_pow_self])
    rw [e, Nat.log2_two_pow, revB_one hk, Nat.log2_two_pow]
    omega
  · rw [if_neg h, if_neg h]
    rfl
end Go.Proofs.YtnmmhkkmejbckaaDoor

/- What Sure hands back is its caller's own. -/
namespace Go.Proofs.YtnmmhkkmejbckaaDoor
open Go Go.Ab

set_option maxRecDepth 8000 in
set_option maxHeartbeats 4000000 in
theorem Sure_own (w : Wa) (hL : Lens w) (hok : w.ok = true) (hz : waysN w.fits ≠ 0) : ACall Tryd.prog 18 [.t (tWa w)] [] (fun o σ => o = .ret (.tup [.loc 0 (sureL w).length, .t (vi 0)]) ∧ σ = [rowI (sureL w)]) := by
  refine ACall.walkD k18 ?_
  have ho := open_ok w true hL
  unfold c18
  unfold tWa at ho ⊢
  unfold wa2 at ho ⊢
  simp only [go_sem, Nat.reduceEqDiff, Nat.reduceAdd]
  rw [opnO_ok hok] at ho
  have hw := (w.ok_iff).1 hok
  have ht := told_ok w hw
  have hnf := hw.nf
  refine ACallL.fresh1 ho rfl ?_
  unfold tTab at ht ⊢
  simp only [go_sem, Nat.reduceEqDiff]
  have he : tolO w = .ret (.t (.agg (w4 (whoseL w.fits)))) := by unfold tolO; rw [if_neg hz]
  have hw4 := whose_small w.fits hz
  rw [he] at ht
  have hsl : sureL w = (List.range w.fs.length).map fun p => soleI ((whoseL w.fits).getD p 0) := rfl
  have hsn : ∀ j, (List.range (j + 1)).map (fun p => soleI ((whoseL w.fits).getD p 0)) = (List.range j).map (fun p => soleI ((whoseL w.fits).getD p 0)) ++ [soleI ((whoseL w.fits).getD j 0)] := fun j => by rw [List.range_succ, List.map_append]; rfl
  rw [hsl]
  generalize whoseL w.fits = X at *
  obtain ⟨x0, x1, x2, x3, rfl⟩ := len4 hw4.1
  refine ACallL.fresh1 ht rfl ?_
  simp only [w4, go_sem, Nat.reduceEqDiff, Nat.reduceAdd, undef]
  refine awpL_gcpE [1] [2, 3, 4, 5, 6] { env := [(2, .t (.lit (.slice none 0 0))), (3, .ptr 0 0), (4, .t (tTab w)), (5, .t (.ptr (.agg [vi x0, vi x1, vi x2, vi x3]) 0)), (6, .t (.lit (.slice none 0 0)))], σ := [.cells [.t (vi 0)]], df := [.call 55 [.ptr 0 0]] } (St.gc_mk rfl rfl rfl rfl) rfl rfl ?_
  have b0 : (0 ≤ (w.fs.length : Int)) = True := eq_true (by omega)
  have b1 : ((w.fs.length : Int) ≤ 4) = True := eq_true (by omega)
  simp only [tTab, go_sem, Nat.reduceEqDiff, Nat.reduceAdd, bnd, List.length_map, b0, b1, Int.le_refl, and_self]
  have hlen : (List.take (w.fs.length - 0) [vi (x0 : Nat), vi (x1 : Nat), vi (x2 : Nat), vi (x3 : Nat)]).length = w.fs.length := by
    rw [List.length_take]; simp; omega
  have hget : ∀ j, j < w.fs.length → (List.take (w.fs.length - 0) [vi (x0 : Nat), vi (x1 : Nat), vi (x2 : Nat), vi (x3 : Nat)])[j]? = some (vi (([x0, x1, x2, x3] : List Nat).getD j 0 : Nat)) := fun j hj => by
    rw [List.getElem?_take_of_lt (by omega)]
    have h4 : j = 0 ∨ j = 1 ∨ j = 2 ∨ j = 3 := by omega
    rcases h4 with rfl | rfl | rfl | rfl <;> rfl
  have hsmall : ∀ j, j < w.fs.length → ([x0, x1, x2, x3] : List Nat).getD j 0 < 64 := fun j hj => hw4.2 _ (by
    rw [List.getD_eq_getElem?_getD, List.getElem?_eq_getElem (by simp; omega)]
    exact List.getElem_mem _)
  generalize List.take (w.fs.length - 0) [vi (x0 : Nat), vi (x1 : Nat), vi (x2 : Nat), vi (x3 : Nat)] = Y at *
  generalize hXe : ([x0, x1, x2, x3] : List Nat) = X at *
  simp only [hlen]
  refine awpL_loopK w.fs.length (fun j s => s = { env := [(23, .t (vi j)), (2, .t (.lit (.slice none 0 0))), (3, .ptr 0 0), (6, .loc 1 j), (21, .t (.slice 1 Y)), (22, .t (vi w.fs.length))], σ := [.cells [.t (vi 0)], rowI ((List.range j).map fun p => soleI (X.getD p 0))], df := [.call 55 [.ptr 0 0]] })
    ⟨_, (Sub.ghost 6 1 (by decide) rfl).trans (Sub.gc [0, 1] [23, 2, 3, 6, 21, 22] rfl rfl), St.gc_mk rfl rfl rfl rfl⟩ ?_
  rintro j s hj rfl
  have hj0 : ((j : Int) < 0) = False := eq_false (by omega)
  have hlj : ((List.range j).map fun p => soleI (X.getD p 0)).length = j := by simp
  cases g : decide ((j : Int) < (w.fs.length : Int))
  · have hje : j = w.fs.length := by have := of_decide_eq_false g; omega
    subst hje
    simp only [go_sem, Nat.reduceEqDiff, undef, g]
    refine finDL_ret rfl rfl ((dfr_none b55 rfl).mono ?_)
    rintro σ' rfl
    refine ⟨_, rfl, [1], rfl, rfl, ?_, ?_⟩
    · rw [hlj]; rfl
    · unfold σgc
      simp only [List.map_cons, List.map_nil, List.getD_cons_zero, List.getD_cons_succ, AO.gc, gc_row]
  have hlt : j < w.fs.length := by have := of_decide_eq_true g; omega
  have hgj := hget j hlt
  have hsm := hsmall j hlt
  have w1 : IntKind.i64.wrap ((j : Int) + 1) = ((j + 1 : Nat) : Int) := by rw [wrap_id (by omega) (by omega)]; omega
  have x1' : (j + 1 ≤ maxLen) = True := eq_true (by unfold maxLen; omega)
  have x2' : ((j + 1) * 8 ≤ 140737488355328) = True := eq_true (by omega)
  rw [hsn j]
  generalize X.getD j 0 = x at *
  have hcv : IntKind.u64.wrap (x : Int) = x := u64_nat (by omega)
  have hones := ones_ok x hsm
  generalize (List.range j).map (fun p => soleI (X.getD p 0)) = P at *
  have hso : soleI x = if size x = 1 then ((x.log2 : Nat) : Int) else -1 := rfl
  have happ : ∀ v : Int, ((P.map vi).map E.t) ++ [E.t (vi v)] = (((P ++ [v]).map vi).map E.t) := fun v => by simp
  by_cases h1 : size x = 1
  · obtain ⟨e1, e2⟩ := size_one x hsm h1
    have htz := tz64_ok x.log2 (by omega)
    rw [← e1] at htz
    rw [hso, if_pos h1]
    rw [h1] at hones
    have happ' := happ (x.log2 : Nat)
    simp only [go_sem, Nat.reduceEqDiff, Int.reduceNeg, g, hgj, hcv]
    refine ACallL.quiet1 hones rfl rfl rfl ?_
    simp only [go_sem, Nat.reduceEqDiff, Int.reduceNeg, beq_self_eq_true, hcv]
    refine ACallL.quiet1 htz rfl rfl rfl ?_
    simp only [go_sem, Nat.reduceEqDiff, Nat.reduceAdd, Nat.reduceLT, Int.reduceNeg, hlj, x1', x2', w1, List.length_map, happ']
    refine ⟨hlt, _, Sub.gc [0, 1] [23, 2, 3, 6, 21, 22] rfl rfl, St.gc_mk rfl ?_ rfl rfl⟩
    unfold σgc
    simp only [List.map_cons, List.map_nil, List.getD_cons_zero, List.getD_cons_succ, AO.gc, gc_row]
    rfl
  · have z1 : (((size x : Nat) : Int) == 1) = false := beq_false_of_ne (by omega)
    rw [hso, if_neg h1]
    have happ' := happ (-1)
    simp only [go_sem, Nat.reduceEqDiff, Int.reduceNeg, g, hgj, hcv]
    refine ACallL.quiet1 hones rfl rfl rfl ?_
    simp only [go_sem, Nat.reduceEqDiff, Nat.reduceAdd, Nat.reduceLT, Int.reduceNeg, z1, hlj, x1', x2', w1, List.length_map, happ']
    refine ⟨hlt, _, Sub.gc [0, 1] [23, 2, 3, 6, 21, 22] rfl rfl, St.gc_mk rfl ?_ rfl rfl⟩
    unfold σgc
    simp only [List.map_cons, List.map_nil, List.getD_cons_zero, List.getD_cons_succ, AO.gc, gc_row]
    rfl
end Go.Proofs.YtnmmhkkmejbckaaDoor
