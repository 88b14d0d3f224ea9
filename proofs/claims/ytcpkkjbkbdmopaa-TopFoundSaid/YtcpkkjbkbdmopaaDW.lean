/- Proved here: laws that the statements need (RaU3). No conditions but those that each law states. -/
import Derived.Test.YtcpkkjbkbdmopaaDV
import Derived.Test.YtcpkkjbkbdmopaaDN

set_option linter.unusedSimpArgs false
set_option linter.unusedVariables false

/- Towels of which it was found how many a bather kept: plain laws. -/
namespace Go.Proofs.Ytcpkkjbkbdmopaa
open Go Go.Ab

/-- A bather who kept just so many. -/
def fbB (b : B) (k : Int) : B := ⟨b.hut, b.half, k, k, 0, 0⟩
def foundT (t : Tw) (n : Nat) (k : Int) : Tw := match t.bs[n]? with
  | some b => { t with bs := t.bs.set n (fbB b k) }
  | none => t
theorem found_eq {t : Tw} {n : Nat} {b : B} (hb : t.bs[n]? = some b) (k : Int) : foundT t n k = { t with bs := t.bs.set n (fbB b k) } := by
  unfold foundT; rw [hb]
theorem found_at {t : Tw} {n : Nat} {b : B} (hb : t.bs[n]? = some b) (k : Int) (i : Nat) : (foundT t n k).bs[i]? = if i = n then some (fbB b k) else t.bs[i]? := by
  have hn := (List.getElem?_eq_some_iff.1 hb).1
  rw [found_eq hb]
  by_cases e : i = n
  · subst e; rw [if_pos rfl]; exact List.getElem?_set_self hn
  · rw [if_neg e]; exact List.getElem?_set_ne (Ne.symm e)
theorem found_len (t : Tw) (n : Nat) (k : Int) : (foundT t n k).bs.length = t.bs.length := by
  unfold foundT; split
  · simp
  · rfl
theorem found_hs (t : Tw) (n : Nat) (k : Int) : (foundT t n k).hs = t.hs ∧ (foundT t n k).vs = t.vs := by
  unfold foundT; split <;> exact ⟨rfl, rfl⟩

theorem filter_one {k : Int} : ∀ {l : List Int}, l.Nodup → k ∈ l → l.filter (fun x => x == k) = [k]
  | [], _, h => by simp at h
  | x :: l, hd, h => by
    rw [List.nodup_cons] at hd
    rw [List.filter_cons]
    by_cases e : x = k
    · subst e
      rw [if_pos (beq_self_eq_true x)]
      congr 1
      rw [List.filter_eq_nil_iff]
      intro y hy
      have : y ≠ x := fun e => hd.1 (e ▸ hy)
      simpa using this
    · rw [if_neg (by simpa using e)]
      rcases List.mem_cons.1 h with h | h
      · exact absurd h.symm e
      · exact filter_one hd.2 h
theorem canL_found {b : B} {n : Nat} {k : Int} (hk : (words b).1 ≤ k ∧ k ≤ (words b).2) (h0 : 0 ≤ k) : canL (fbB b k) n (-1) 0 0 = canL b n n k 0 := by
  rw [canL_none]
  have e1 : words (fbB b k) = (k, k) := by unfold words fbB; simp only; rw [Int.sub_zero]; congr 1; omega
  rw [e1]
  unfold canL
  have e2 : (fun x => !skipN n n k 0 x) = fun x : Int => x == k := by
    funext x
    unfold skipN
    simp only [beq_self_eq_true, Bool.true_and, Nat.zero_testBit, Bool.false_and, Bool.or_false, bne, Bool.not_not]
  rw [e2, filter_one (rangeI_nodup _ _) (mem_rangeI.2 hk)]
  unfold rangeI
  rw [show (k - k + 1).toNat = 1 by omega]
  simp
theorem canL_other {b : B} {i n : Nat} {k : Int} (h : i ≠ n) : canL b i (-1) 0 0 = canL b i n k 0 := by
  rw [canL_none]
  unfold canL
  have e2 : (fun x => !skipN i n k 0 x) = fun _ : Int => true := by
    funext x
    unfold skipN
    have : ((i : Int) == (n : Int)) = false := beq_false_of_ne (by omega)
    rw [this]
    simp
  rw [e2]
  exact (List.filter_eq_self.2 fun _ _ => rfl).symm
theorem tups_found {t : Tw} {n : Nat} {b : B} (hb : t.bs[n]? = some b) {k : Int} (hk : (words b).1 ≤ k ∧ k ≤ (words b).2) (h0 : 0 ≤ k) : ∀ j, j ≤ t.bs.length → tupsK (foundT t n k) (-1) 0 0 j = tupsK t n k 0 j
  | 0, _ => rfl
  | j + 1, hj => by
    have ih := tups_found hb hk h0 j (by omega)
    have hbj : t.bs[j]? = some (t.bs[j]'(by omega)) := List.getElem?_eq_getElem _
    have hf := found_at hb k j
    by_cases e : j = n
    · subst e
      rw [if_pos rfl] at hf
      rw [tupsK_succ hf, tupsK_succ hb, ih, canL_found hk h0]
    · rw [if_neg e] at hf
      rw [tupsK_succ (hf.trans hbj), tupsK_succ hbj, ih, canL_other e]
theorem sumT_same : ∀ (bs bs' : List B) (l : List Int) (s : List Int), bs'.length = bs.length → (∀ (i : Nat) (b b' : B), bs[i]? = some b → bs'[i]? = some b' → b'.hut = b.hut ∧ b'.half = b.half) →
    (bs'.zip l).foldl (fun s p => addS s p.1 p.2) s = (bs.zip l).foldl (fun s p => addS s p.1 p.2) s
  | [], [], _, _, _, _ => rfl
  | [], _ :: _, _, _, h, _ => by simp at h
  | _ :: _, [], _, _, h, _ => by simp at h
  | _ :: _, _ :: _, [], _, _, _ => by simp
  | b :: bs, b' :: bs', x :: l, s, h, hp => by
    have h0 := hp 0 b b' rfl rfl
    rw [List.zip_cons_cons, List.zip_cons_cons, List.foldl_cons, List.foldl_cons]
    have e : addS s b' x = addS s b x := by unfold addS; rw [h0.1, h0.2]
    simp only
    rw [e]
    exact sumT_same bs bs' l _ (by simpa using h) fun i a a' h1 h2 => hp (i + 1) a a' h1 h2
theorem sumT_found {t : Tw} {n : Nat} {b : B} (hb : t.bs[n]? = some b) (k : Int) (l : List Int) : sumT (foundT t n k).bs l = sumT t.bs l := by
  unfold sumT
  refine sumT_same _ _ _ _ (found_len t n k) fun i a a' h1 h2 => ?_
  rw [found_at hb k i] at h2
  by_cases e : i = n
  · subst e
    rw [if_pos rfl] at h2
    rw [hb] at h1
    injection h1 with h1
    injection h2 with h2
    subst h1 h2
    exact ⟨rfl, rfl⟩
  · rw [if_neg e, h1] at h2
    injection h2 with h2
    subst h2
    exact ⟨rfl, rfl⟩
/-- The truths are those in which the bather kept so many. -/
theorem truths_found {t : Tw} {n : Nat} {b : B} (hb : t.bs[n]? = some b) {k : Int} (hk : (words b).1 ≤ k ∧ k ≤ (words b).2) (h0 : 0 ≤ k) : truthsA (foundT t n k) (-1) 0 0 = truthsA t n k 0 := by
  unfold truthsA truthsC
  have e1 : allC (foundT t n k) = allC t := by
    unfold allC cnts
    rw [(found_hs t n k).1, (found_hs t n k).2]
  rw [e1, found_len, tups_found hb hk h0 _ (Nat.le_refl _)]
  exact List.filter_congr fun l _ => by rw [sumT_found hb]
theorem doc_found {t : Tw} (ht : t.OK) {n : Nat} {b : B} (hb : t.bs[n]? = some b) {k : Int} (hk : (words b).1 ≤ k ∧ k ≤ (words b).2) (h0 : 0 ≤ k) (hf : (foundT t n k).OK) : docA (foundT t n k) = (docA t).filter fun l => l.getD n 0 == k := by
  rw [docA_eq hf, truths_found hb hk h0, truthsA_one ht n (List.getElem?_eq_some_iff.1 hb).1]

/-! ### What a bather can have kept -/
theorem kept_range {t : Tw} (ht : t.OK) {n : Nat} {b : B} (hb : t.bs[n]? = some b) (hT : isT t = true) :
    (∃ l ∈ docA t, l.getD n 0 = (keptOf t n).1) ∧ (∃ l ∈ docA t, l.getD n 0 = (keptOf t n).2) ∧ (∀ l ∈ docA t, (keptOf t n).1 ≤ l.getD n 0 ∧ l.getD n 0 ≤ (keptOf t n).2) ∧ (words b).1 ≤ (keptOf t n).1 ∧ (keptOf t n).2 ≤ (words b).2 ∧ (keptOf t n).1 ≤ (keptOf t n).2 := by
  have hD : (docA t).isEmpty = false := by have := isT_eq ht; rw [hT] at this; simpa using this.symm
  have hne : (docA t).map (fun l => l.getD n 0) ≠ [] := by
    intro h
    rw [List.map_eq_nil_iff] at h
    rw [h] at hD
    simp at hD
  rw [keptOf_eq ht hb hD]
  obtain ⟨m1, m2⟩ := hullD_min hne
  obtain ⟨x1, x2⟩ := hullD_max hne
  obtain ⟨l1, h1, e1⟩ := List.mem_map.1 m1
  obtain ⟨l2, h2, e2⟩ := List.mem_map.1 x1
  have w1 := (doc_mem ht).1 h1
  have w2 := (doc_mem ht).1 h2
  have a1 := w1.2.1 n b hb
  have a2 := w2.2.1 n b hb
  refine ⟨⟨l1, h1, e1⟩, ⟨l2, h2, e2⟩, fun l hl => ⟨m2 _ (List.mem_map.2 ⟨l, hl, rfl⟩), x2 _ (List.mem_map.2 ⟨l, hl, rfl⟩)⟩, by omega, by omega, ?_⟩
  exact x2 _ m1
/-- Each number between is that of a truth. -/
theorem kept_all {t : Tw} (ht : t.OK) {n : Nat} {b : B} (hb : t.bs[n]? = some b) (hT : isT t = true) {k : Int} (hk : (keptOf t n).1 ≤ k ∧ k ≤ (keptOf t n).2) : ∃ l ∈ docA t, l.getD n 0 = k := by
  obtain ⟨⟨s, hs, e1⟩, ⟨u, hu, e2⟩, -⟩ := kept_range ht hb hT
  obtain ⟨v, hv, e⟩ := between ht (List.getElem?_eq_some_iff.1 hb).1 hu (k - (keptOf t n).1).toNat hs (by omega)
  exact ⟨v, hv, by omega⟩
theorem found_isT {t : Tw} (ht : t.OK) {n : Nat} {b : B} (hb : t.bs[n]? = some b) (hT : isT t = true) {k : Int} (hk : (keptOf t n).1 ≤ k ∧ k ≤ (keptOf t n).2) (hf : (foundT t n k).OK) : isT (foundT t n k) = true := by
  obtain ⟨-, -, -, w1, w2, -⟩ := kept_range ht hb hT
  have hwb := words_bound t ht (List.mem_of_getElem? hb)
  obtain ⟨v, hv, e⟩ := kept_all ht hb hT hk
  rw [isT_eq hf, doc_found ht hb (by omega) (by omega) hf]
  have : v ∈ (docA t).filter fun l => l.getD n 0 == k := List.mem_filter.2 ⟨hv, by simpa using e⟩
  cases h : (docA t).filter fun l => l.getD n 0 == k with
  | nil => rw [h] at this; simp at this
  | cons _ _ => rfl
theorem found_kept {t : Tw} (ht : t.OK) {n : Nat} {b : B} (hb : t.bs[n]? = some b) (hT : isT t = true) {k : Int} (hk : (keptOf t n).1 ≤ k ∧ k ≤ (keptOf t n).2) (hf : (foundT t n k).OK) : keptOf (foundT t n k) n = (k, k) := by
  obtain ⟨-, -, -, w1, w2, -⟩ := kept_range ht hb hT
  have hwb := words_bound t ht (List.mem_of_getElem? hb)
  have hT2 := found_isT ht hb hT hk hf
  have hb2 : (foundT t n k).bs[n]? = some (fbB b k) := by rw [found_at hb, if_pos rfl]
  obtain ⟨⟨s, hs, e1⟩, ⟨u, hu, e2⟩, -⟩ := kept_range hf hb2 hT2
  rw [doc_found ht hb (by omega) (by omega) hf] at hs hu
  have h1 := (List.mem_filter.1 hs).2
  have h2 := (List.mem_filter.1 hu).2
  rw [beq_iff_eq] at h1 h2
  exact Prod.ext (by omega) (by omega)

/-! ### All -/
theorem hullOf_sub {a b : List Int} (h : ∀ x ∈ a, x ∈ b) : (hullOf b).1 ≤ (hullOf a).1 ∧ (hullOf a).2 ≤ (hullOf b).2 := by
  unfold hullOf
  simp only
  obtain ⟨p1, p2⟩ := foldl_min_le b 1073741824
  obtain ⟨q1, q2⟩ := foldl_max_ge b (-1073741824)
  constructor
  · rcases foldl_min_mem a 1073741824 with e | e
    · omega
    · exact p2 _ (h _ e)
  · rcases foldl_max_mem a (-1073741824) with e | e
    · omega
    · exact q2 _ (h _ e)
def Ra.found (r : Ra) (n : Nat) (k : Int) : Ra := { r with tw := foundT r.tw n k }
theorem found_all {r : Ra} (ht : r.tw.OK) {n : Nat} {b : B} (hb : r.tw.bs[n]? = some b) {k : Int} (hk : (words b).1 ≤ k ∧ k ≤ (words b).2) (h0 : 0 ≤ k) (hf : (foundT r.tw n k).OK) : r.all.1 ≤ (r.found n k).all.1 ∧ (r.found n k).all.2 ≤ r.all.2 := by
  refine hullOf_sub fun x hx => ?_
  obtain ⟨l, hl, rfl⟩ := List.mem_map.1 hx
  rw [show (r.found n k).tw = foundT r.tw n k from rfl] at hl ⊢
  rw [← docA_eq hf, doc_found ht hb hk h0 hf, docA_eq ht] at hl
  rw [sumT_found hb]
  exact List.mem_map.2 ⟨l, (List.mem_filter.1 hl).1, rfl⟩
theorem found_ok {r : Ra} (hok : r.ok = true) (n : Nat) (k : Int) : (r.found n k).ok = (foundT r.tw n k).ok := by
  have h1 : r.tw.ok = true ∧ (r.found n k).ok = ((foundT r.tw n k).ok && r.ok) := by
    unfold Ra.ok ok1 at hok ⊢
    simp only [Bool.and_eq_true] at hok
    obtain ⟨⟨⟨⟨⟨⟨h1, h2⟩, h3⟩, h4⟩, h5⟩, h6⟩, h7⟩ := hok
    refine ⟨h1, ?_⟩
    unfold Ra.found
    simp only
    rw [h1, h2, h3, h4, h5, h7]
    rw [show ok2 { r with tw := foundT r.tw n k } = ok2 r from rfl, h6]
    simp
  rw [h1.2, hok, Bool.and_true]

/-! ### How many -/
/-- In how many truths a bather kept less than so many. -/
def cntB (t : Tw) (n : Nat) (k : Int) : Nat := (docA t).countP fun l => decide (l.getD n 0 < k)
theorem countP_step {n : Nat} {k : Int} : ∀ ls : List (List Int), ls.countP (fun l => decide (l.getD n 0 < k + 1)) = ls.countP (fun l => decide (l.getD n 0 < k)) + (ls.filter fun l => l.getD n 0 == k).length
  | [] => rfl
  | l :: ls => by
    rw [List.countP_cons, List.countP_cons, List.filter_cons, countP_step ls]
    rcases Int.lt_trichotomy (l.getD n 0) k with h | h | h
    · rw [if_pos (decide_eq_true (by omega)), if_pos (decide_eq_true h), if_neg (by rw [beq_iff_eq]; omega)]; omega
    · rw [if_pos (decide_eq_true (by omega)), if_neg (by rw [decide_eq_true_iff]; omega), if_pos (by rw [beq_iff_eq]; exact h), List.length_cons]; omega
    · rw [if_neg (by rw [decide_eq_true_iff]; omega), if_neg (by rw [decide_eq_true_iff]; omega), if_neg (by rw [beq_iff_eq]; omega)]; omega
theorem cnt_step (t : Tw) (n : Nat) (k : Int) : cntB t n (k + 1) = cntB t n k + ((docA t).filter fun l => l.getD n 0 == k).length := countP_step _
theorem cnt_none {t : Tw} {n : Nat} {k : Int} (h : ∀ l ∈ docA t, k ≤ l.getD n 0) : cntB t n k = 0 := by
  unfold cntB
  rw [List.countP_eq_zero]
  intro l hl
  have := h l hl
  rw [decide_eq_true_iff]
  omega
theorem cnt_all {t : Tw} {n : Nat} {k : Int} (h : ∀ l ∈ docA t, l.getD n 0 < k) : cntB t n k = (docA t).length := by
  unfold cntB
  rw [List.countP_eq_length]
  intro l hl
  exact decide_eq_true (h l hl)
theorem cnt_le (t : Tw) (n : Nat) (k : Int) : cntB t n k ≤ (docA t).length := List.countP_le_length

/-! ### Search -/
theorem best_at (g : Nat → Int) : ∀ k, match bestL (fun i => (g i, true)) (List.range k) with
    | none => k = 0
    | some (y, c) => y < k ∧ c = g y
  | 0 => rfl
  | k + 1 => by
    have ih := best_at g k
    have e : bestL (fun i => (g i, true)) (List.range (k + 1)) = bestStep (fun i => (g i, true)) (bestL (fun i => (g i, true)) (List.range k)) k := by
      unfold bestL
      rw [List.range_succ, List.foldl_append]
      rfl
    rw [e]
    generalize bestL (fun i => (g i, true)) (List.range k) = acc at *
    unfold bestStep
    simp only [if_true]
    cases acc with
    | none => exact ⟨by omega, rfl⟩
    | some p =>
      obtain ⟨y, c⟩ := p
      simp only at ih ⊢
      split
      · rename_i h
        split at h
        · injection h
        · injection h
      · rename_i y' c' h
        split at h
        · injection h with h; injection h with h1 h2; subst h1 h2; exact ⟨by omega, rfl⟩
        · injection h with h; injection h with h1 h2; subst h1 h2; exact ⟨by omega, ih.2⟩
theorem most_ge {t : Tw} {n : Nat} {b : B} (hb : t.bs[n]? = some b) {k : Int} (hk : (words b).1 ≤ k ∧ k ≤ (words b).2) : waysN t n 0 k ≤ mostW t n := by
  unfold mostW
  rw [hb]
  simp only
  obtain ⟨h1, h2⟩ := foldl_max_ge (((canL b n (-1) 0 0).map (waysN t n 0)).filter fun w => decide (0 < w)) 0
  by_cases hw : 0 < waysN t n 0 k
  · refine h2 _ (List.mem_filter.2 ⟨List.mem_map.2 ⟨k, ?_, rfl⟩, decide_eq_true hw⟩)
    rw [canL_none, mem_rangeI]
    exact hk
  · omega
end Go.Proofs.Ytcpkkjbkbdmopaa
