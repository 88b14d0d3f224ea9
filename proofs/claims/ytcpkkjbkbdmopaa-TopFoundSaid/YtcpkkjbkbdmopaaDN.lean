/- Proved here: laws that the statements need (RaS5). No conditions but those that each law states. -/
import Derived.Test.YtcpkkjbkbdmopaaDI
import Derived.Test.YtcpkkjbkbdmopaaDJ

set_option linter.unusedSimpArgs false
set_option linter.unusedVariables false

/- Numbers at hand, hour by hour: plain laws for RailWhen and RailTrue. -/
namespace Go.Proofs.Ytcpkkjbkbdmopaa
open Go Go.Ab

theorem leftT_anti (t : Ln → Nat) {h h' : Nat} (hh : h ≤ h') : ∀ (ls : List Ln), (∀ l ∈ ls, 1 ≤ l.many) → leftT t ls h' ≤ leftT t ls h
  | [], _ => by simp [leftT]
  | l :: ls, hm => by
    have ih := leftT_anti t hh ls fun x hx => hm x (List.mem_cons_of_mem _ hx)
    have hl := hm l List.mem_cons_self
    unfold leftT at ih ⊢
    rw [List.filter_cons, List.filter_cons]
    by_cases h1 : h' < t l
    · rw [if_pos (by simpa using h1), if_pos (by simp; omega)]
      simp only [List.map_cons, List.sum_cons]; omega
    · rw [if_neg (by simpa using h1)]
      split
      · simp only [List.map_cons, List.sum_cons]; omega
      · exact ih
theorem Ra.ready_mono {r : Ra} (hr : r.OK) {h h' : Nat} (hh : h ≤ h') : (r.ready h).1 ≤ (r.ready h').1 ∧ (r.ready h).2 ≤ (r.ready h').2 := by
  have h1 := leftT_anti (r.tm true) hh r.lines fun l hl => (hr.ln l hl).1
  have h2 := leftT_anti (r.tm false) hh r.lines fun l hl => (hr.ln l hl).1
  have e : ∀ b x, r.left b x = leftT (r.tm b) r.lines x := fun _ _ => rfl
  unfold Ra.ready
  rw [e, e, e, e]
  simp only
  omega
/-- From the hour that is told on there are enough, and before there are not. -/
theorem Ra.when_some {r : Ra} (hr : r.OK) {many : Int} {x : Nat} (hx : r.when many = some x) {h : Nat} (hh : h ≤ r.H) : many ≤ max 0 (r.ready h).1 ↔ x ≤ h := by
  unfold Ra.when hoursL at hx
  obtain ⟨h1, h2, h3, h4⟩ := find_range'.1 hx
  have h3 := of_decide_eq_true h3
  constructor
  · intro hm
    by_cases hlt : x ≤ h
    · exact hlt
    · have := of_decide_eq_false (h4 h (by omega) (by omega))
      omega
  · intro hle
    have := (r.ready_mono hr hle).1
    omega
theorem Ra.when_none {r : Ra} {many : Int} (hx : r.when many = none) {h : Nat} (hh : h ≤ r.H) : ¬ many ≤ max 0 (r.ready h).1 := by
  unfold Ra.when hoursL at hx
  have := of_decide_eq_false (find_range'_none.1 hx h (by omega) (by omega))
  exact this
theorem ans_in {α : Type} {r : Ra} (hok : r.ok = true) {is : Bool} (his : is = true) (z : α) (x : α × Int) : ans r is z x = if isT r.tw then x else (z, 10) := by
  subst his
  unfold ans
  rw [hok]; rfl
theorem ans_no {α : Type} {r : Ra} (hok : r.ok = true) {is : Bool} (his : is = false) (z : α) (x : α × Int) : ans r is z x = (z, 2) := by
  subst his
  unfold ans
  rw [hok]; rfl
theorem isH_in {r : Ra} (hr : r.OK) {h : Nat} (hh : h ≤ r.H) : r.isH h = true := by
  obtain ⟨g1, g2, g3⟩ := hr.H
  exact decide_eq_true (by omega)
theorem isMany_in {n : Nat} (hn : n ≤ 60) : isMany n = true := decide_eq_true (by omega)

def Ra.stocked (r : Ra) (s : Int) : Ra := { r with stock := s }
theorem stocked_OK {r : Ra} (hr : r.OK) {s : Int} (hs : 0 ≤ s ∧ s ≤ 60) : (r.stocked s).OK :=
  ⟨hr.tw, hs, hr.hours, hr.price, hr.nl, hr.sun, hr.rain, hr.perhaps, hr.ln⟩
theorem stocked_ready (r : Ra) (s : Int) (h : Nat) : (r.stocked s).ready h = (s - (r.all.2 + r.left true h), s - (r.all.1 + r.left false h)) := rfl
end Go.Proofs.Ytcpkkjbkbdmopaa
