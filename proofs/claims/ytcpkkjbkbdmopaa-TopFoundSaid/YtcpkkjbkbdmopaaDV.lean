/- Proved here: laws that the statements need (RaU1, RaU2). No conditions but those that each law states. -/
import Derived.Test.YtcpkkjbkbdmopaaDC
import Derived.Test.YtcpkkjbkbdmopaaDD

set_option linter.unusedSimpArgs false
set_option linter.unusedVariables false

/- Flows on a small net: between two circulations there is one that is greater by one at a given arc. Plain Lean, no conditions. -/
namespace Go.Proofs.Ytcpkkjbkbdmopaa
open Go Go.Ab

/-! ### Sums -/
def sumN : Nat → (Nat → Int) → Int
  | 0, _ => 0
  | n + 1, f => sumN n f + f n
theorem sumN_congr {f g : Nat → Int} : ∀ {n : Nat}, (∀ j, j < n → f j = g j) → sumN n f = sumN n g
  | 0, _ => rfl
  | n + 1, h => by rw [sumN, sumN, sumN_congr fun j hj => h j (by omega), h n (by omega)]
theorem sumN_add (f g : Nat → Int) : ∀ n, sumN n (fun j => f j + g j) = sumN n f + sumN n g
  | 0 => rfl
  | n + 1 => by rw [sumN, sumN, sumN, sumN_add f g n]; omega
theorem sumN_sub (f g : Nat → Int) : ∀ n, sumN n (fun j => f j - g j) = sumN n f - sumN n g
  | 0 => rfl
  | n + 1 => by rw [sumN, sumN, sumN, sumN_sub f g n]; omega
theorem sumN_zero : ∀ {n : Nat} {f : Nat → Int}, (∀ j, j < n → f j = 0) → sumN n f = 0
  | 0, _, _ => rfl
  | n + 1, f, h => by rw [sumN, sumN_zero fun j hj => h j (by omega), h n (by omega)]; rfl
/-- One summand alone. -/
theorem sumN_one {n : Nat} {f : Nat → Int} {a : Nat} (ha : a < n) (h : ∀ j, j < n → j ≠ a → f j = 0) : sumN n f = f a := by
  induction n with
  | zero => omega
  | succ n ih =>
    rw [sumN]
    by_cases e : a = n
    · subst e
      rw [sumN_zero fun j hj => h j (by omega) (by omega)]; omega
    · rw [ih (by omega) fun j hj hne => h j (by omega) hne, h n (by omega) (by omega)]; omega
theorem sumN_neg {n : Nat} {f : Nat → Int} (h : sumN n f < 0) : ∃ j, j < n ∧ f j < 0 := by
  induction n with
  | zero => exact absurd h (by simp [sumN])
  | succ n ih =>
    rw [sumN] at h
    by_cases e : f n < 0
    · exact ⟨n, by omega, e⟩
    · obtain ⟨j, hj, hf⟩ := ih (by omega)
      exact ⟨j, by omega, hf⟩
theorem sumN_append (n m : Nat) (f : Nat → Int) : sumN (n + m) f = sumN n f + sumN m (fun j => f (n + j)) := by
  induction m with
  | zero => simp [sumN]
  | succ m ih => rw [← Nat.add_assoc, sumN, sumN, ih]; omega
theorem sumN_le {f g : Nat → Int} : ∀ {n : Nat}, (∀ j, j < n → f j ≤ g j) → sumN n f ≤ sumN n g
  | 0, _ => Int.le_refl _
  | n + 1, h => by
    have := sumN_le (n := n) fun j hj => h j (by omega)
    have := h n (by omega)
    rw [sumN, sumN]; omega

/-! ### Flows -/
def at1 (a b : Nat) : Int := if a = b then 1 else 0
/-- What flows into a node, less what flows out. -/
def net (M : Nat) (tl hd : Nat → Nat) (c : Nat → Int) (v : Nat) : Int := sumN M fun j => c j * (at1 (hd j) v - at1 (tl j) v)
/-- No arc bears more than of another flow, nor the other way. -/
def within1 (c d : Int) : Prop := (0 ≤ c ∧ c ≤ d) ∨ (d ≤ c ∧ c ≤ 0)
theorem net_add (M : Nat) (tl hd : Nat → Nat) (c e : Nat → Int) (v : Nat) : net M tl hd (fun j => c j + e j) v = net M tl hd c v + net M tl hd e v := by
  unfold net
  rw [← sumN_add]
  exact sumN_congr fun j _ => Int.add_mul _ _ _
theorem net_sub (M : Nat) (tl hd : Nat → Nat) (c e : Nat → Int) (v : Nat) : net M tl hd (fun j => c j - e j) v = net M tl hd c v - net M tl hd e v := by
  unfold net
  rw [← sumN_sub]
  exact sumN_congr fun j _ => Int.sub_mul _ _ _
theorem net_one (M : Nat) (tl hd : Nat → Nat) {a : Nat} (ha : a < M) (x : Int) (v : Nat) : net M tl hd (fun j => if j = a then x else 0) v = x * (at1 (hd a) v - at1 (tl a) v) := by
  unfold net
  rw [sumN_one ha fun j _ hne => by show (if j = a then x else 0) * _ = 0; rw [if_neg hne, Int.zero_mul]]
  show (if a = a then x else 0) * _ = _
  rw [if_pos rfl]
def gap (M : Nat) (c d : Nat → Int) : Int := sumN M fun j => ((d j - c j).natAbs : Int)
theorem gap_nn (M : Nat) (c d : Nat → Int) : 0 ≤ gap M c d := by
  have : sumN M (fun _ => 0) ≤ gap M c d := sumN_le fun j _ => by omega
  rw [sumN_zero fun _ _ => rfl] at this
  exact this
theorem gap_step (M : Nat) (c d : Nat → Int) {a : Nat} (ha : a < M) (x : Int) (h : ((d a - (c a + x)).natAbs : Int) = ((d a - c a).natAbs : Int) - 1) : gap M (fun j => c j + if j = a then x else 0) d = gap M c d - 1 := by
  have e : sumN M (fun j => if j = a then (1 : Int) else 0) = 1 := by
    rw [sumN_one ha fun j _ hne => if_neg hne, if_pos rfl]
  unfold gap
  rw [← e, ← sumN_sub]
  refine sumN_congr fun j _ => ?_
  by_cases hj : j = a
  · subst hj; simp only [if_true]; exact h
  · simp only [if_neg hj]; omega

/-- A way through the net, closed. -/
theorem close_flow (M : Nat) (tl hd : Nat → Nat) (d : Nat → Int) (n p : Nat) (hp : tl n = p) (hbal : ∀ v, net M tl hd d v = 0) :
    ∀ (m : Nat) (c : Nat → Int) (q : Nat), gap M c d ≤ m → (∀ j, j < M → within1 (c j) (d j)) → c n = 1 → 1 ≤ d n → (∀ v, net M tl hd c v = at1 q v - at1 p v) →
      ∃ c' : Nat → Int, (∀ j, j < M → within1 (c' j) (d j)) ∧ c' n = 1 ∧ ∀ v, net M tl hd c' v = 0 := by
  intro m
  induction m with
  | zero =>
    intro c q hg hw hn hd1 hnet
    by_cases hqp : q = p
    · subst hqp
      exact ⟨c, hw, hn, fun v => by rw [hnet]; omega⟩
    exfalso
    have h1 : net M tl hd (fun j => d j - c j) q < 0 := by
      rw [net_sub, hbal, hnet]
      unfold at1
      rw [if_pos rfl, if_neg (fun e => hqp e.symm)]
      omega
    obtain ⟨j, hj, hf⟩ := sumN_neg h1
    replace hf : (d j - c j) * (at1 (hd j) q - at1 (tl j) q) < 0 := hf
    have h2 : (1 : Int) ≤ gap M c d := by
      have : sumN M (fun i => if i = j then (1 : Int) else 0) ≤ gap M c d := sumN_le fun i hi => by
        by_cases e : i = j
        · subst e
          rw [if_pos rfl]
          by_cases e2 : d i - c i = 0
          · rw [e2, Int.zero_mul] at hf; omega
          · omega
        · rw [if_neg e]; omega
      rw [sumN_one hj fun i _ hne => if_neg hne, if_pos rfl] at this
      exact this
    omega
  | succ m ih =>
    intro c q hg hw hn hd1 hnet
    by_cases hqp : q = p
    · subst hqp
      exact ⟨c, hw, hn, fun v => by rw [hnet]; omega⟩
    have h1 : net M tl hd (fun j => d j - c j) q < 0 := by
      rw [net_sub, hbal, hnet]
      unfold at1
      rw [if_pos rfl, if_neg (fun e => hqp e.symm)]
      omega
    obtain ⟨j, hj, hf⟩ := sumN_neg h1
    replace hf : (d j - c j) * (at1 (hd j) q - at1 (tl j) q) < 0 := hf
    have hwj := hw j hj
    have hjn : 0 < d j - c j → j ≠ n ∨ tl j ≠ q := fun _ => by
      by_cases e : j = n
      · subst e; right; rw [hp]; exact fun e => hqp e.symm
      · exact .inl e
    -- the sign of what is left, and where it leads
    rcases Int.lt_trichotomy (d j - c j) 0 with hlt | heq | hgt
    · -- against the arc
      have hat : at1 (hd j) q - at1 (tl j) q > 0 := by
        by_cases e : at1 (hd j) q - at1 (tl j) q > 0
        · exact e
        · exfalso
          have := Int.mul_nonneg_of_nonpos_of_nonpos (show d j - c j ≤ 0 by omega) (show at1 (hd j) q - at1 (tl j) q ≤ 0 by omega)
          omega
      have hh : hd j = q := by
        by_cases e : hd j = q
        · exact e
        · unfold at1 at hat; rw [if_neg e] at hat; split at hat <;> omega
      have hne : j ≠ n := fun e => by
        subst e
        unfold within1 at hwj
        omega
      refine ih (fun i => c i + if i = j then -1 else 0) (tl j) ?_ ?_ ?_ hd1 ?_
      · rw [gap_step M c d hj (-1) (by omega)]; omega
      · intro i hi
        have := hw i hi
        unfold within1 at this ⊢
        by_cases e : i = j
        · subst e; simp only [if_true]; omega
        · simp only [if_neg e]; omega
      · simp only [if_neg (Ne.symm hne)]; omega
      · intro v
        rw [net_add, net_one M tl hd hj, hnet, hh]
        omega
    · rw [heq, Int.zero_mul] at hf; omega
    · -- along the arc
      have hat : at1 (hd j) q - at1 (tl j) q < 0 := by
        by_cases e : at1 (hd j) q - at1 (tl j) q < 0
        · exact e
        · exfalso
          have := Int.mul_nonneg (show 0 ≤ d j - c j by omega) (show 0 ≤ at1 (hd j) q - at1 (tl j) q by omega)
          omega
      have ht : tl j = q := by
        by_cases e : tl j = q
        · exact e
        · unfold at1 at hat; rw [if_neg e] at hat; split at hat <;> omega
      have hne : j ≠ n := fun e => by
        rcases hjn hgt with h | h
        · exact h e
        · exact h ht
      refine ih (fun i => c i + if i = j then 1 else 0) (hd j) ?_ ?_ ?_ hd1 ?_
      · rw [gap_step M c d hj 1 (by omega)]; omega
      · intro i hi
        have := hw i hi
        unfold within1 at this ⊢
        by_cases e : i = j
        · subst e; simp only [if_true]; omega
        · simp only [if_neg e]; omega
      · simp only [if_neg (Ne.symm hne)]; omega
      · intro v
        rw [net_add, net_one M tl hd hj, hnet, ht]
        omega

/-- A part of a circulation that bears one unit at a given arc. -/
theorem unit_flow (M : Nat) (tl hd : Nat → Nat) (d : Nat → Int) (n : Nat) (hn : n < M) (hd1 : 1 ≤ d n) (hbal : ∀ v, net M tl hd d v = 0) :
    ∃ c : Nat → Int, (∀ j, j < M → within1 (c j) (d j)) ∧ c n = 1 ∧ ∀ v, net M tl hd c v = 0 := by
  refine close_flow M tl hd d n (tl n) rfl hbal (gap M (fun j => if j = n then 1 else 0) d).toNat (fun j => if j = n then 1 else 0) (hd n) ?_ ?_ (if_pos rfl) hd1 ?_
  · have := gap_nn M (fun j => if j = n then 1 else 0) d; omega
  · intro j hj
    unfold within1
    by_cases e : j = n
    · subst e; simp only [if_true]; omega
    · simp only [if_neg e]; omega
  · intro v
    rw [net_one M tl hd hn, Int.one_mul]
end Go.Proofs.Ytcpkkjbkbdmopaa

/- What a bather kept, of all truths, leaves out no number between two of them. Plain Lean. -/
namespace Go.Proofs.Ytcpkkjbkbdmopaa
open Go Go.Ab

theorem mem_rangeI {lo hi x : Int} : x ∈ rangeI lo hi ↔ lo ≤ x ∧ x ≤ hi := by
  unfold rangeI
  rw [List.mem_map]
  constructor
  · rintro ⟨j, hj, rfl⟩
    have := List.mem_range.1 hj
    omega
  · intro h
    exact ⟨(x - lo).toNat, List.mem_range.2 (by omega), by omega⟩

/-! ### Which lists are truths -/
theorem tups_mem (t : Tw) : ∀ {k : Nat}, k ≤ t.bs.length → ∀ {l : List Int}, l ∈ tupsK t (-1) 0 0 k ↔ (l.length = k ∧ ∀ i b, i < k → t.bs[i]? = some b → (words b).1 ≤ l.getD i 0 ∧ l.getD i 0 ≤ (words b).2)
  | 0, _, l => by
    constructor
    · intro h
      simp only [tupsK, List.mem_singleton] at h
      subst h
      exact ⟨rfl, fun i b hi => by omega⟩
    · rintro ⟨h, _⟩
      simp only [tupsK, List.mem_singleton]
      exact List.eq_nil_of_length_eq_zero h
  | k + 1, hk, l => by
    have hbk : t.bs[k]? = some (t.bs[k]'(by omega)) := List.getElem?_eq_getElem _
    rw [tupsK_succ hbk]
    constructor
    · intro h
      obtain ⟨l', h', hl⟩ := List.mem_flatMap.1 h
      obtain ⟨x, hx, rfl⟩ := List.mem_map.1 hl
      obtain ⟨hlen, hall⟩ := (tups_mem t (by omega)).1 h'
      rw [canL_none, mem_rangeI] at hx
      refine ⟨by simp [hlen], fun i b hi hb => ?_⟩
      by_cases hc : i < k
      · rw [List.getD_eq_getElem?_getD, List.getElem?_append_left (by omega), ← List.getD_eq_getElem?_getD]
        exact hall i b hc hb
      · have : i = k := by omega
        subst this
        rw [hb] at hbk
        injection hbk with hbk
        rw [List.getD_eq_getElem?_getD, List.getElem?_append_right (by omega), hlen, Nat.sub_self, hbk]
        exact hx
    · rintro ⟨hlen, hall⟩
      have e : l = l.take k ++ [l.getD k 0] := by
        rw [List.getD_eq_getElem?_getD, List.getElem?_eq_getElem (by omega), Option.getD_some, List.take_append_getElem (by omega)]
        rw [List.take_of_length_le (by omega)]
      rw [e]
      refine List.mem_flatMap.2 ⟨l.take k, (tups_mem t (by omega)).2 ⟨by simp; omega, fun i b hi hb => ?_⟩, List.mem_map.2 ⟨l.getD k 0, ?_, rfl⟩⟩
      · rw [List.getD_eq_getElem?_getD, List.getElem?_take_of_lt hi, ← List.getD_eq_getElem?_getD]
        exact hall i b (by omega) hb
      · rw [canL_none, mem_rangeI]
        exact hall k _ (by omega) hbk

theorem ones_bit {n i : Nat} (h : i < n) : (2 ^ n - 1).testBit i = true := by rw [Nat.testBit_two_pow_sub_one]; exact decide_eq_true h
theorem doc_mem {t : Tw} (ht : t.OK) {l : List Int} : l ∈ docA t ↔ (l.length = t.bs.length ∧ (∀ (i : Nat) (b : B), t.bs[i]? = some b → (words b).1 ≤ l.getD i 0 ∧ l.getD i 0 ≤ (words b).2) ∧
    (∀ (a : Nat) (s : Int × Int), t.hs[a]? = some s → s.1 ≤ sumSel (fun b => b.hut == (a : Int)) t.bs l ∧ sumSel (fun b => b.hut == (a : Int)) t.bs l ≤ s.2) ∧
    (∀ (a : Nat) (s : Int × Int), t.vs[a]? = some s → s.1 ≤ sumSel (fun b => b.half == (a : Int)) t.bs l ∧ sumSel (fun b => b.half == (a : Int)) t.bs l ≤ s.2)) := by
  rw [docA_eq ht]
  unfold truthsA truthsC allC
  rw [List.mem_filter, tups_mem t (Nat.le_refl _), ← right_eq ht]
  unfold rightL allIx
  rw [Bool.and_eq_true, List.all_eq_true, List.all_eq_true]
  constructor
  · rintro ⟨⟨h1, h2⟩, h3, h4⟩
    refine ⟨h1, fun i b hb => h2 i b (List.getElem?_eq_some_iff.1 hb).1 hb, fun a s hs => ?_, fun a s hs => ?_⟩
    · have := h3 (s, a) (List.mem_iff_getElem?.2 ⟨a, by simp [List.getElem?_zipIdx, hs]⟩)
      simp only [rightH] at this
      rw [ones_bit (List.getElem?_eq_some_iff.1 hs).1, Bool.not_true, Bool.false_or] at this
      exact of_decide_eq_true this
    · have := h4 (s, a) (List.mem_iff_getElem?.2 ⟨a, by simp [List.getElem?_zipIdx, hs]⟩)
      simp only [rightV] at this
      rw [ones_bit (List.getElem?_eq_some_iff.1 hs).1, Bool.not_true, Bool.false_or] at this
      exact of_decide_eq_true this
  · rintro ⟨h1, h2, h3, h4⟩
    refine ⟨⟨h1, fun i b _ hb => h2 i b hb⟩, fun p hp => ?_, fun p hp => ?_⟩
    · obtain ⟨s, a⟩ := p
      have := List.mem_zipIdx_iff_getElem?.1 hp
      simp only at this
      simp only [rightH, Bool.or_eq_true]
      exact .inr (decide_eq_true (h3 a s this))
    · obtain ⟨s, a⟩ := p
      have := List.mem_zipIdx_iff_getElem?.1 hp
      simp only at this
      simp only [rightV, Bool.or_eq_true]
      exact .inr (decide_eq_true (h4 a s this))

/-! ### Sums as sums of functions -/
theorem sumN_cons (n : Nat) (f : Nat → Int) : sumN (n + 1) f = f 0 + sumN n fun i => f (i + 1) := by
  rw [Nat.add_comm, sumN_append 1 n]
  simp only [sumN, Int.zero_add]
  rw [sumN_congr fun j _ => by rw [Nat.add_comm]]
theorem sumSel_eq (p : B → Bool) : ∀ (bs : List B) (l : List Int), l.length = bs.length → sumSel p bs l = sumN bs.length fun i => match bs[i]? with | some b => if p b then l.getD i 0 else 0 | none => 0
  | [], _, _ => rfl
  | b :: bs, [], h => by simp at h
  | b :: bs, x :: l, h => by
    have ih := sumSel_eq p bs l (by simpa using h)
    rw [List.length_cons, sumN_cons]
    simp only [List.getElem?_cons_zero, List.getElem?_cons_succ, List.getD_cons_zero, List.getD_cons_succ]
    rw [← ih]
    unfold sumSel
    rw [List.zip_cons_cons, List.map_cons, List.sum_cons]

/-- Where a bather is. -/
def Tw.hutN (t : Tw) (i : Nat) : Nat := match t.bs[i]? with | some b => b.hut.toNat | none => 0
def Tw.halfN (t : Tw) (i : Nat) : Nat := match t.bs[i]? with | some b => b.half.toNat | none => 0
theorem hutN_lt {t : Tw} (ht : t.OK) (i : Nat) : t.hutN i < 3 := by
  unfold Tw.hutN
  cases h : t.bs[i]? with
  | none => simp
  | some b => have := ht.bs b (List.mem_of_getElem? h); have := ht.nh; simp only; omega
theorem halfN_lt {t : Tw} (ht : t.OK) (i : Nat) : t.halfN i < 3 := by
  unfold Tw.halfN
  cases h : t.bs[i]? with
  | none => simp
  | some b => have := ht.bs b (List.mem_of_getElem? h); have := ht.nv; simp only; omega
def rowF (t : Tw) (x : Nat → Int) (h : Nat) : Int := sumN t.bs.length fun i => if t.hutN i = h then x i else 0
def colF (t : Tw) (x : Nat → Int) (h : Nat) : Int := sumN t.bs.length fun i => if t.halfN i = h then x i else 0
theorem sel_row {t : Tw} (ht : t.OK) {l : List Int} (hl : l.length = t.bs.length) (h : Nat) : sumSel (fun b => b.hut == (h : Int)) t.bs l = rowF t (fun i => l.getD i 0) h := by
  rw [sumSel_eq _ _ _ hl]
  unfold rowF Tw.hutN
  refine sumN_congr fun i hi => ?_
  rw [List.getElem?_eq_getElem hi]
  simp only
  have := ht.bs _ (List.getElem_mem hi)
  by_cases e : t.bs[i].hut = (h : Int)
  · rw [if_pos (beq_iff_eq.2 e), if_pos (by omega)]
  · rw [if_neg (by simpa using e), if_neg (by omega)]
theorem sel_col {t : Tw} (ht : t.OK) {l : List Int} (hl : l.length = t.bs.length) (h : Nat) : sumSel (fun b => b.half == (h : Int)) t.bs l = colF t (fun i => l.getD i 0) h := by
  rw [sumSel_eq _ _ _ hl]
  unfold colF Tw.halfN
  refine sumN_congr fun i hi => ?_
  rw [List.getElem?_eq_getElem hi]
  simp only
  have := ht.bs _ (List.getElem_mem hi)
  by_cases e : t.bs[i].half = (h : Int)
  · rw [if_pos (beq_iff_eq.2 e), if_pos (by omega)]
  · rw [if_neg (by simpa using e), if_neg (by omega)]
theorem rowF_add (t : Tw) (x y : Nat → Int) (h : Nat) : rowF t (fun i => x i + y i) h = rowF t x h + rowF t y h := by
  unfold rowF
  rw [← sumN_add]
  exact sumN_congr fun i _ => by split <;> simp
theorem colF_add (t : Tw) (x y : Nat → Int) (h : Nat) : colF t (fun i => x i + y i) h = colF t x h + colF t y h := by
  unfold colF
  rw [← sumN_add]
  exact sumN_congr fun i _ => by split <;> simp
theorem rowF_congr {t : Tw} {x y : Nat → Int} (h : Nat) (e : ∀ i, i < t.bs.length → x i = y i) : rowF t x h = rowF t y h := by
  unfold rowF
  exact sumN_congr fun i hi => by rw [e i hi]
theorem colF_congr {t : Tw} {x y : Nat → Int} (h : Nat) (e : ∀ i, i < t.bs.length → x i = y i) : colF t x h = colF t y h := by
  unfold colF
  exact sumN_congr fun i hi => by rw [e i hi]
theorem row_all {t : Tw} (ht : t.OK) (x : Nat → Int) : rowF t x 0 + rowF t x 1 + rowF t x 2 = sumN t.bs.length x := by
  unfold rowF
  rw [← sumN_add, ← sumN_add]
  refine sumN_congr fun i _ => ?_
  have := hutN_lt ht i
  have h3 : t.hutN i = 0 ∨ t.hutN i = 1 ∨ t.hutN i = 2 := by omega
  rcases h3 with h | h | h <;> simp [h]
theorem col_all {t : Tw} (ht : t.OK) (x : Nat → Int) : colF t x 0 + colF t x 1 + colF t x 2 = sumN t.bs.length x := by
  unfold colF
  rw [← sumN_add, ← sumN_add]
  refine sumN_congr fun i _ => ?_
  have := halfN_lt ht i
  have h3 : t.halfN i = 0 ∨ t.halfN i = 1 ∨ t.halfN i = 2 := by omega
  rcases h3 with h | h | h <;> simp [h]

/-! ### The net: huts 0.., half hours 3.., and what is free, 6 -/
def tlN (t : Tw) (j : Nat) : Nat := if j < t.bs.length then t.hutN j else if j < t.bs.length + 3 then 6 else j - t.bs.length
def hdN (t : Tw) (j : Nat) : Nat := if j < t.bs.length then 3 + t.halfN j else if j < t.bs.length + 3 then j - t.bs.length else 6
theorem net_parts (t : Tw) (c : Nat → Int) (v : Nat) : net (t.bs.length + 3 + 3) (tlN t) (hdN t) c v =
    (sumN t.bs.length fun i => c i * (at1 (3 + t.halfN i) v - at1 (t.hutN i) v)) +
    (c t.bs.length * (at1 0 v - at1 6 v) + c (t.bs.length + 1) * (at1 1 v - at1 6 v) + c (t.bs.length + 2) * (at1 2 v - at1 6 v)) +
    (c (t.bs.length + 3) * (at1 6 v - at1 3 v) + c (t.bs.length + 4) * (at1 6 v - at1 4 v) + c (t.bs.length + 5) * (at1 6 v - at1 5 v)) := by
  unfold net
  rw [sumN_append, sumN_append]
  have e1 : sumN t.bs.length (fun j => c j * (at1 (hdN t j) v - at1 (tlN t j) v)) = sumN t.bs.length fun i => c i * (at1 (3 + t.halfN i) v - at1 (t.hutN i) v) :=
    sumN_congr fun i hi => by unfold hdN tlN; rw [if_pos hi, if_pos hi]
  have h2 : ∀ j, j < 3 → tlN t (t.bs.length + j) = 6 ∧ hdN t (t.bs.length + j) = j := fun j hj => by
    unfold hdN tlN
    rw [if_neg (by omega), if_pos (by omega), if_neg (by omega), if_pos (by omega)]
    omega
  have h3 : ∀ j, j < 3 → tlN t (t.bs.length + 3 + j) = 3 + j ∧ hdN t (t.bs.length + 3 + j) = 6 := fun j hj => by
    unfold hdN tlN
    rw [if_neg (by omega), if_neg (by omega), if_neg (by omega), if_neg (by omega)]
    omega
  have h20 : tlN t t.bs.length = 6 ∧ hdN t t.bs.length = 0 := h2 0 (by omega)
  rw [e1]
  simp only [sumN, h20.1, h20.2, Nat.reduceAdd, (h2 1 (by omega)).1, (h2 1 (by omega)).2, (h2 2 (by omega)).1, (h2 2 (by omega)).2, (h3 0 (by omega)).1, (h3 0 (by omega)).2, (h3 1 (by omega)).1, (h3 1 (by omega)).2, (h3 2 (by omega)).1, (h3 2 (by omega)).2, Int.zero_add, Nat.add_zero, Nat.add_assoc]
theorem cells_row (t : Tw) (ht : t.OK) (c : Nat → Int) {v : Nat} (hv : v < 3) : (sumN t.bs.length fun i => c i * (at1 (3 + t.halfN i) v - at1 (t.hutN i) v)) = - rowF t c v := by
  have e : ∀ n f, - sumN n f = sumN n fun i => 0 - f i := fun n f => by
    rw [sumN_sub, sumN_zero fun _ _ => rfl]; omega
  unfold rowF
  rw [e]
  refine sumN_congr fun i _ => ?_
  have : at1 (3 + t.halfN i) v = 0 := if_neg (by omega)
  rw [this]
  unfold at1
  split <;> simp
theorem cells_col (t : Tw) (ht : t.OK) (c : Nat → Int) {v : Nat} (hv : v < 3) : (sumN t.bs.length fun i => c i * (at1 (3 + t.halfN i) (3 + v) - at1 (t.hutN i) (3 + v))) = colF t c v := by
  unfold colF
  refine sumN_congr fun i _ => ?_
  have h := hutN_lt ht i
  have : at1 (t.hutN i) (3 + v) = 0 := if_neg (by omega)
  rw [this]
  unfold at1
  by_cases e : t.halfN i = v
  · rw [if_pos e, if_pos (by omega)]; simp
  · rw [if_neg e, if_neg (by omega)]; simp
theorem cells_free (t : Tw) (ht : t.OK) (c : Nat → Int) {v : Nat} (hv : 6 ≤ v) : (sumN t.bs.length fun i => c i * (at1 (3 + t.halfN i) v - at1 (t.hutN i) v)) = 0 := by
  refine sumN_zero fun i _ => ?_
  have h := hutN_lt ht i
  have h' := halfN_lt ht i
  have e1 : at1 (3 + t.halfN i) v = 0 := if_neg (by omega)
  have e2 : at1 (t.hutN i) v = 0 := if_neg (by omega)
  rw [e1, e2]; simp
theorem net_row (t : Tw) (ht : t.OK) (c : Nat → Int) {v : Nat} (hv : v < 3) : net (t.bs.length + 3 + 3) (tlN t) (hdN t) c v = c (t.bs.length + v) - rowF t c v := by
  rw [net_parts, cells_row t ht c hv]
  have h3 : v = 0 ∨ v = 1 ∨ v = 2 := by omega
  rcases h3 with rfl | rfl | rfl <;> simp [at1] <;> omega
theorem net_col (t : Tw) (ht : t.OK) (c : Nat → Int) {v : Nat} (hv : v < 3) : net (t.bs.length + 3 + 3) (tlN t) (hdN t) c (3 + v) = colF t c v - c (t.bs.length + 3 + v) := by
  rw [net_parts, cells_col t ht c hv]
  have h3 : v = 0 ∨ v = 1 ∨ v = 2 := by omega
  rcases h3 with rfl | rfl | rfl <;> simp [at1, Nat.add_assoc] <;> omega
theorem net_free (t : Tw) (ht : t.OK) (c : Nat → Int) : net (t.bs.length + 3 + 3) (tlN t) (hdN t) c 6 = (c (t.bs.length + 3) + c (t.bs.length + 4) + c (t.bs.length + 5)) - (c t.bs.length + c (t.bs.length + 1) + c (t.bs.length + 2)) := by
  rw [net_parts, cells_free t ht c (Nat.le_refl _)]
  simp [at1]
  omega
theorem net_none (t : Tw) (ht : t.OK) (c : Nat → Int) {v : Nat} (hv : 6 < v) : net (t.bs.length + 3 + 3) (tlN t) (hdN t) c v = 0 := by
  rw [net_parts, cells_free t ht c (by omega)]
  have e : ∀ k, k ≤ 6 → at1 k v = 0 := fun k hk => if_neg (by omega)
  rw [e 0 (by omega), e 1 (by omega), e 2 (by omega), e 3 (by omega), e 4 (by omega), e 5 (by omega), e 6 (by omega)]
  simp

/-! ### The step -/
def difN (t : Tw) (x : Nat → Int) (j : Nat) : Int := if j < t.bs.length then x j else if j < t.bs.length + 3 then rowF t x (j - t.bs.length) else colF t x (j - t.bs.length - 3)
theorem dif_cell {t : Tw} {x : Nat → Int} {j : Nat} (h : j < t.bs.length) : difN t x j = x j := if_pos h
theorem dif_row {t : Tw} {x : Nat → Int} {v : Nat} (h : v < 3) : difN t x (t.bs.length + v) = rowF t x v := by
  unfold difN
  rw [if_neg (by omega), if_pos (by omega), Nat.add_sub_cancel_left]
theorem dif_col {t : Tw} {x : Nat → Int} {v : Nat} : difN t x (t.bs.length + 3 + v) = colF t x v := by
  unfold difN
  rw [if_neg (by omega), if_neg (by omega)]
  congr 1
  omega
theorem dif_bal {t : Tw} (ht : t.OK) (x : Nat → Int) (v : Nat) : net (t.bs.length + 3 + 3) (tlN t) (hdN t) (difN t x) v = 0 := by
  have er : ∀ h, rowF t (difN t x) h = rowF t x h := fun h => rowF_congr h fun i hi => dif_cell hi
  have ec : ∀ h, colF t (difN t x) h = colF t x h := fun h => colF_congr h fun i hi => dif_cell hi
  by_cases h1 : v < 3
  · rw [net_row t ht _ h1, dif_row h1, er]; omega
  by_cases h2 : v < 6
  · obtain ⟨k, rfl⟩ : ∃ k, v = 3 + k := ⟨v - 3, by omega⟩
    rw [net_col t ht _ (by omega), dif_col, ec]; omega
  by_cases h3 : v = 6
  · subst h3
    rw [net_free t ht]
    have a := row_all ht x
    have b := col_all ht x
    have c0 := dif_row (t := t) (x := x) (v := 0) (by omega)
    have c1 := dif_row (t := t) (x := x) (v := 1) (by omega)
    have c2 := dif_row (t := t) (x := x) (v := 2) (by omega)
    have d0 := dif_col (t := t) (x := x) (v := 0)
    have d1 := dif_col (t := t) (x := x) (v := 1)
    have d2 := dif_col (t := t) (x := x) (v := 2)
    simp only [Nat.add_assoc, Nat.add_zero] at c0 c1 c2 d0 d1 d2
    rw [show t.bs.length + (3 + 1) = t.bs.length + 4 from rfl] at d1
    rw [show t.bs.length + (3 + 2) = t.bs.length + 5 from rfl] at d2
    omega
  · exact net_none t ht _ (by omega)

theorem getD_ofFn {N : Nat} (f : Nat → Int) {i : Nat} (h : i < N) : ((List.range N).map f).getD i 0 = f i := by
  rw [List.getD_eq_getElem?_getD, List.getElem?_map, List.getElem?_range h]; rfl

/-- A truth with one more of a bather, if there is one with more. -/
theorem step_up {t : Tw} (ht : t.OK) {s u : List Int} (hs : s ∈ docA t) (hu : u ∈ docA t) {n : Nat} (hn : n < t.bs.length) (hlt : s.getD n 0 < u.getD n 0) :
    ∃ v ∈ docA t, v.getD n 0 = s.getD n 0 + 1 := by
  obtain ⟨s1, s2, s3, s4⟩ := (doc_mem ht).1 hs
  obtain ⟨u1, u2, u3, u4⟩ := (doc_mem ht).1 hu
  obtain ⟨c, hw, hcn, hbal⟩ := unit_flow (t.bs.length + 3 + 3) (tlN t) (hdN t) (difN t fun i => u.getD i 0 - s.getD i 0) n (by omega) (by rw [dif_cell hn]; omega) (dif_bal ht _)
  have hx : ∀ i, i < t.bs.length → within1 (c i) (u.getD i 0 - s.getD i 0) := fun i hi => by
    have := hw i (by omega)
    rw [dif_cell hi] at this
    exact this
  have hvi : ∀ i, i < t.bs.length → ((List.range t.bs.length).map fun i => s.getD i 0 + c i).getD i 0 = s.getD i 0 + c i := fun i hi => getD_ofFn _ hi
  have hlen : ((List.range t.bs.length).map fun i => s.getD i 0 + c i).length = t.bs.length := by simp
  have hsub : ∀ x y : Nat → Int, (fun i => x i) = fun i => y i + (x i - y i) := fun x y => by funext i; omega
  refine ⟨(List.range t.bs.length).map fun i => s.getD i 0 + c i, (doc_mem ht).2 ⟨hlen, fun i b hb => ?_, fun a p hp => ?_, fun a p hp => ?_⟩, by rw [hvi n hn, hcn]⟩
  · have hi := (List.getElem?_eq_some_iff.1 hb).1
    rw [hvi i hi]
    have h1 := s2 i b hb
    have h2 := u2 i b hb
    have h3 := hx i hi
    unfold within1 at h3
    omega
  · have ha : a < 3 := by have := (List.getElem?_eq_some_iff.1 hp).1; have := ht.nh; omega
    have h1 := s3 a p hp
    have h2 := u3 a p hp
    rw [sel_row ht s1] at h1
    rw [sel_row ht u1, hsub (fun i => u.getD i 0) (fun i => s.getD i 0), rowF_add] at h2
    rw [sel_row ht hlen, rowF_congr a hvi, rowF_add]
    have h3 := hw (t.bs.length + a) (by omega)
    rw [dif_row ha] at h3
    have h4 := hbal a
    rw [net_row t ht c ha] at h4
    unfold within1 at h3
    omega
  · have ha : a < 3 := by have := (List.getElem?_eq_some_iff.1 hp).1; have := ht.nv; omega
    have h1 := s4 a p hp
    have h2 := u4 a p hp
    rw [sel_col ht s1] at h1
    rw [sel_col ht u1, hsub (fun i => u.getD i 0) (fun i => s.getD i 0), colF_add] at h2
    rw [sel_col ht hlen, colF_congr a hvi, colF_add]
    have h3 := hw (t.bs.length + 3 + a) (by omega)
    rw [dif_col] at h3
    have h4 := hbal (3 + a)
    rw [net_col t ht c ha] at h4
    unfold within1 at h3
    omega
/-- No number between is left out. -/
theorem between {t : Tw} (ht : t.OK) {n : Nat} (hn : n < t.bs.length) {u : List Int} (hu : u ∈ docA t) : ∀ (m : Nat) {s : List Int}, s ∈ docA t → s.getD n 0 + m ≤ u.getD n 0 → ∃ v ∈ docA t, v.getD n 0 = s.getD n 0 + m
  | 0, s, hs, _ => ⟨s, hs, by simp⟩
  | m + 1, s, hs, h => by
    obtain ⟨w, hw, e⟩ := step_up ht hs hu hn (by omega)
    obtain ⟨v, hv, e2⟩ := between ht hn hu m hw (by omega)
    exact ⟨v, hv, by omega⟩
end Go.Proofs.Ytcpkkjbkbdmopaa
