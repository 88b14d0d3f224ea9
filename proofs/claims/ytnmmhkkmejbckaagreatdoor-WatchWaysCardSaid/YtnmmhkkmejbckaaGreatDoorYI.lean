/- Proved here: laws that the statements need (WzU4). No conditions but those that each law states. -/
import Derived.Test.YtnmmhkkmejbckaaGreatDoorYH

set_option linter.unusedSimpArgs false
set_option linter.unusedVariables false

/- WatchStopped: the plain laws, and what a watch can show at a minute. -/
namespace Go.Proofs.YtnmmhkkmejbckaaGreatDoor
open Go Go.Ab

/-! ### The spans of minutes -/
structure SpP (L : List Int) (X : List (Int × Int)) : Prop where
  each : ∀ p ∈ X, p.1 ≤ p.2 ∧ (∀ x, p.1 ≤ x → x ≤ p.2 → x ∈ L) ∧ p.1 - 1 ∉ L ∧ p.2 + 1 ∉ L
  apart : X.Pairwise fun p q => p.2 + 1 < q.1
  last : ∀ p, X.getLast? = some p → ∀ x ∈ L, x ≤ p.2
  none_ : X = [] → L = []
theorem SpP.step {P : List Int} {X : List (Int × Int)} (h : SpP P X) (m : Int) (hm : ∀ x ∈ P, x < m) : SpP (P ++ [m]) (stepS X m) := by
  rcases List.eq_nil_or_concat X with rfl | ⟨Y, p, rfl⟩
  · have hP := h.none_ rfl
    subst hP
    have e : stepS [] m = [(m, m)] := rfl
    rw [e]
    refine ⟨fun q hq => ?_, by simp, fun q hq x hx => ?_, by simp⟩
    · rw [List.mem_singleton] at hq
      subst hq
      simp only [List.nil_append, List.mem_singleton]
      exact ⟨by omega, fun x h1 h2 => by omega, by omega, by omega⟩
    · simp at hq hx
      subst hq hx
      simp
  rw [List.concat_eq_append] at h ⊢
  have hgl : (Y ++ [p]).getLast? = some p := by simp
  have hdl : (Y ++ [p]).dropLast = Y := by simp
  obtain ⟨pw1, -, pw2⟩ := List.pairwise_append.1 h.apart
  have pw3 : ∀ q ∈ Y, q.2 + 1 < p.1 := fun q hq => pw2 q hq p (List.mem_singleton.2 rfl)
  have hmax := h.last p hgl
  obtain ⟨e1, e2, e3, e4⟩ := h.each p (by simp)
  have hpm : p.2 < m := hm _ (e2 p.2 (by omega) (by omega))
  unfold stepS
  rw [hgl]
  simp only
  split
  · rename_i he
    rw [hdl]
    refine ⟨fun q hq => ?_, ?_, fun q hq x hx => ?_, by simp⟩
    · rcases List.mem_append.1 hq with hq | hq
      · obtain ⟨a1, a2, a3, a4⟩ := h.each q (by simp [hq])
        have := pw3 q hq
        refine ⟨a1, fun x h1 h2 => by simp [a2 x h1 h2], ?_, ?_⟩
        · simp only [List.mem_append, List.mem_singleton, not_or]
          exact ⟨a3, by omega⟩
        · simp only [List.mem_append, List.mem_singleton, not_or]
          exact ⟨a4, by omega⟩
      · rw [List.mem_singleton] at hq
        subst hq
        simp only [List.mem_append, List.mem_singleton, not_or]
        refine ⟨by omega, fun x h1 h2 => ?_, ⟨e3, by omega⟩, ⟨fun hc => ?_, by omega⟩⟩
        · by_cases hx : x = m
          · exact .inr hx
          · exact .inl (e2 x h1 (by omega))
        · have := hm _ hc
          omega
    · refine List.pairwise_append.2 ⟨pw1, by simp, fun q hq r hr => ?_⟩
      rw [List.mem_singleton] at hr
      subst hr
      exact pw3 q hq
    · simp at hq
      subst hq
      rcases List.mem_append.1 hx with hx | hx
      · have := hm _ hx; simp only; omega
      · rw [List.mem_singleton] at hx; simp only; omega
  · rename_i he
    refine ⟨fun q hq => ?_, ?_, fun q hq x hx => ?_, by simp⟩
    · rcases List.mem_append.1 hq with hq | hq
      · obtain ⟨a1, a2, a3, a4⟩ := h.each q hq
        have hq2 : q.2 ≤ p.2 := by
          rcases List.mem_append.1 hq with hq | hq
          · have := pw3 q hq; omega
          · rw [List.mem_singleton] at hq; rw [hq]; omega
        refine ⟨a1, fun x h1 h2 => by simp [a2 x h1 h2], ?_, ?_⟩
        · simp only [List.mem_append, List.mem_singleton, not_or]
          exact ⟨a3, by omega⟩
        · simp only [List.mem_append, List.mem_singleton, not_or]
          exact ⟨a4, by omega⟩
      · rw [List.mem_singleton] at hq
        subst hq
        simp only [List.mem_append, List.mem_singleton, not_or]
        refine ⟨by omega, fun x h1 h2 => .inr (by omega), ⟨fun hc => ?_, by omega⟩, ⟨fun hc => ?_, by omega⟩⟩
        · have := hmax _ hc; omega
        · have := hmax _ hc; omega
    · refine List.pairwise_append.2 ⟨h.apart, by simp, fun q hq r hr => ?_⟩
      rw [List.mem_singleton] at hr
      subst hr
      simp only
      rcases List.mem_append.1 hq with hq | hq
      · have := pw3 q hq; omega
      · rw [List.mem_singleton] at hq; rw [hq]; omega
    · simp at hq
      subst hq
      rcases List.mem_append.1 hx with hx | hx
      · have := hm _ hx; simp only; omega
      · rw [List.mem_singleton] at hx; simp only; omega
theorem spans_P {L : List Int} (h : L.Pairwise (· < ·)) : SpP L (spansL L) := by
  suffices hh : ∀ n, SpP (L.take n) (spansL (L.take n)) by
    have := hh L.length
    rwa [List.take_length] at this
  intro n
  induction n with
  | zero => exact ⟨by simp [spansL], by simp [spansL], by simp [spansL], by simp⟩
  | succ n ih =>
    rw [List.take_add_one]
    cases hx : L[n]? with
    | none => simpa using ih
    | some x =>
      rw [Option.toList_some, spansL_snoc]
      refine ih.step x fun y hy => ?_
      obtain ⟨hn, rfl⟩ := List.getElem?_eq_some_iff.1 hx
      obtain ⟨i, hi, rfl⟩ := List.mem_iff_getElem.1 hy
      rw [List.length_take] at hi
      rw [List.getElem_take]
      exact (List.pairwise_iff_getElem.1 h) i n (by omega) hn (by omega)
theorem rngI_pw (lo hi : Int) : (rngI lo hi).Pairwise (· < ·) := by
  unfold rngI
  rw [List.pairwise_map]
  exact List.pairwise_lt_range.imp fun h => by omega
theorem minsL_pw (o : Ow) (f : Fi) : (minsL o f).Pairwise (· < ·) := by
  unfold minsL
  split
  · exact (rngI_pw _ _).filter _
  · exact List.Pairwise.filter _ (by simp)

/-! ### What can be shown at a minute -/
def canB (o : Ow) (f : Fi) (m : Int) : Bool := wI m 0 1440 && seen o m f.lo f.hi
theorem seen_early {o : Ow} {m lo hi : Int} (h : m < o.set_) : seen o m lo hi = false := by
  unfold seen handsL
  rw [if_neg (by omega)]
  rfl
theorem seen_show {o : Ow} (ho : o.OK) {m : Int} (h : o.set_ ≤ m) (lo hi : Int) : (showL o m).any (fun x => wI x lo hi) = seen o m lo hi := by
  have hp := (showL_P ho h).1
  unfold seen
  cases hb : (handsL o m).any fun h => wI h lo hi
  · rw [List.any_eq_false] at hb ⊢
    exact fun x hx => hb x ((hp x).1 hx)
  · rw [List.any_eq_true] at hb ⊢
    obtain ⟨x, hx, h2⟩ := hb
    exact ⟨x, (hp x).2 hx, h2⟩
theorem stop_mem {o : Ow} {f : Fi} (hs : f.stopped = true) {x : Int} : x ∈ minsL o f ↔ (o.set_ ≤ x ∧ x ≤ f.minute) ∧ atB o f x = true := by
  unfold minsL
  rw [hs, if_pos rfl, List.mem_filter, mem_rngI]
theorem canB_stop {o : Ow} (ho : o.OK) {f : Fi} (hf : f.OK) (hs : f.stopped = true) (hh : hutB o f = true) {x : Int} (hx : x ≤ f.minute) : canB o f x = true ↔ x ∈ minsL o f := by
  have h1 := ho.set_
  have h2 := hf.minute
  rw [stop_mem hs]
  unfold canB atB
  rw [hh, Bool.true_and, Bool.and_eq_true]
  unfold wI
  rw [decide_eq_true_eq]
  constructor
  · rintro ⟨a, b⟩
    refine ⟨⟨?_, hx⟩, b⟩
    rcases Int.lt_or_le x o.set_ with c | c
    · rw [seen_early c] at b; cases b
    · exact c
  · rintro ⟨⟨a, -⟩, b⟩
    exact ⟨by omega, b⟩
theorem fit_go {o : Ow} {f : Fi} (hf : f.OK) (hs : f.stopped = false) : fitB o f = (hutB o f && canB o f f.minute) := by
  have h2 := hf.minute
  have hw : wI f.minute 0 1440 = true := decide_eq_true h2
  unfold fitB minsL canB
  rw [hs, if_neg (by decide), hw, Bool.true_and, List.filter_cons]
  unfold atB
  cases (hutB o f && seen o f.minute f.lo f.hi) <;> rfl
theorem fit_no {o : Ow} {f : Fi} (hh : hutB o f = false) : minsL o f = [] := by
  unfold minsL
  have : ∀ l : List Int, l.filter (atB o f) = [] := fun l => by
    rw [List.filter_eq_nil_iff]
    intro x _
    unfold atB
    rw [hh]
    simp
  split <;> exact this _

end Go.Proofs.YtnmmhkkmejbckaaGreatDoor
