/- Proved here: laws that the statements need (BoXC). No conditions but those that each law states. -/
import Derived.Test.YtafcdpmcmmfbhaaDoorBO

set_option linter.unusedSimpArgs false
set_option linter.unusedVariables false

/- Plain laws: a narrower sighting; one sighting less. -/
namespace Go.Proofs.YtafcdpmcmmfbhaaDoor
open Go Go.Ab

theorem saw_set {b : Bo} {s s' : Si} (hm : s'.minute = s.minute) (hv : ∀ m, s.okB b m = true → s'.okB b m = true) : ∀ {l : List Si} {k : Nat} {m : Int}, l[k]? = some s → sawB b m l = true → sawB b m (l.set k s') = true
  | [], k, m, h, _ => by simp at h
  | x :: l, 0, m, h, hl => by
    simp only [List.getElem?_cons_zero, Option.some.injEq] at h
    subst h
    rw [List.set_cons_zero]
    unfold sawB at hl ⊢
    rw [Bool.and_eq_true] at hl ⊢
    exact ⟨hv m hl.1, by rw [hm]; exact hl.2⟩
  | x :: l, k + 1, m, h, hl => by
    rw [List.getElem?_cons_succ] at h
    rw [List.set_cons_succ]
    unfold sawB at hl ⊢
    rw [Bool.and_eq_true] at hl ⊢
    exact ⟨hl.1, saw_set hm hv h hl.2⟩
def narS (s : Si) (u : Nat) : Si := { s with c1 := min s.c2 (s.c1 + (u % 2 : Nat)), r2 := max s.r1 (s.r2 - (u / 2 % 2 : Nat)) }
theorem narS_ok {b : Bo} {s : Si} {u : Nat} (m : Int) (h : s.okB b m = true) : (narS s u).okB b m = true := by
  rw [okB_iff] at h ⊢
  unfold narS
  simp only
  omega
theorem narS_in {b : Bo} {s : Si} (hs : s.OK b) {u p : Nat} (h : inB b (narS s u) p = true) : inB b s p = true := by
  unfold inB narS at h
  unfold inB
  simp only [Bool.and_eq_true, decide_eq_true_eq] at h ⊢
  have := hs.col
  have := hs.row
  omega
def narB (b : Bo) (n k u : Nat) : Bo := match (seenOf b n)[k]? with
  | some s => withS b (b.seen.set n ((seenOf b n).set k (narS s u)))
  | none => b
theorem nar_spec {b : Bo} (hb : b.OK) {n k u : Nat} (hn : n < b.seen.length) {s : Si} (hk : (seenOf b n)[k]? = some s) : (withS b (b.seen.set n ((seenOf b n).set k (narS s u)))).OK ∧ Less (withS b (b.seen.set n ((seenOf b n).set k (narS s u)))) n b n := by
  have hsm : s ∈ seenOf b n := List.mem_of_getElem? hk
  have hlt : k < (seenOf b n).length := (List.getElem?_eq_some_iff.1 hk).1
  refine ⟨?_, ⟨rfl, rfl, rfl, fun row c hc => ?_⟩⟩
  · refine withS_OK hb (by rw [List.length_set]; exact hb.num) fun x hx => ?_
    rcases List.mem_or_eq_of_mem_set hx with hx | rfl
    · exact ⟨hb.lens x hx, hb.saw x hx⟩
    · exact ⟨by rw [List.length_set]; exact hb.lens _ (seenOf_mem hn), saw_set (s := s) (s' := narS s u) rfl (fun m h => narS_ok m h) hk (hb.saw _ (seenOf_mem hn))⟩
  · refine tr_seen (b := b) (S := b.seen.set n ((seenOf b n).set k (narS s u))) (S' := b.seen) (i := n) (row := row) (fun s' hs' m hm hsk => .inl ?_) (fun m hm => tr_row hc hm) hc
    rw [set_getD hn]
    obtain ⟨i, hi, e⟩ := List.getElem_of_mem hs'
    by_cases hik : i = k
    · subst hik
      have : s' = s := by
        have h1 := List.getElem?_eq_some_iff.1 hk
        obtain ⟨_, h1⟩ := h1
        rw [← e, ← h1]
      subst this
      exact ⟨narS s' u, List.mem_iff_getElem.2 ⟨i, by rw [List.length_set]; exact hlt, by rw [List.getElem_set_self]⟩, hsk, narS_in (hb.si (seenOf_mem hn) hsm)⟩
    · exact ⟨s', List.mem_iff_getElem.2 ⟨i, by rw [List.length_set]; exact hi, by rw [List.getElem_set_ne (by omega)]; exact e⟩, hsk, id⟩
theorem without_spec {b : Bo} (hb : b.OK) {n : Nat} (w : Nat) (hn : n < b.seen.length) : (withS b (b.seen.set n (kept (seenOf b n) w (seenOf b n).length))).OK ∧ Less b n (withS b (b.seen.set n (kept (seenOf b n) w (seenOf b n).length))) n := by
  have hs := kept_subl (seenOf b n) w
  refine ⟨?_, ⟨rfl, rfl, rfl, fun row c hc => ?_⟩⟩
  · refine withS_OK hb (by rw [List.length_set]; exact hb.num) fun x hx => ?_
    rcases List.mem_or_eq_of_mem_set hx with hx | rfl
    · exact ⟨hb.lens x hx, hb.saw x hx⟩
    · exact ⟨Nat.le_trans hs.length_le (hb.lens _ (seenOf_mem hn)), saw_sub hs (hb.saw _ (seenOf_mem hn))⟩
  · refine tr_seen (b := b) (S := b.seen) (S' := b.seen.set n (kept (seenOf b n) w (seenOf b n).length)) (i := n) (row := row) (fun s' hs' m hm hsk => .inl ⟨s', ?_, hsk, id⟩) (fun m hm => tr_row hc hm) hc
    rw [set_getD hn] at hs'
    exact hs.subset hs'
theorem Less.refl (b : Bo) (n : Nat) : Less b n b n := ⟨rfl, rfl, rfl, fun _ _ h => h⟩
end Go.Proofs.YtafcdpmcmmfbhaaDoor
