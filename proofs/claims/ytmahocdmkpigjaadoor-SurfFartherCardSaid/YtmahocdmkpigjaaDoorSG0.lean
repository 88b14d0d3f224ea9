/- Proved here: laws that the statements need (SuU0). No conditions but those that each law states. -/
import Derived.Test.YtmahocdmkpigjaaDoorSG

set_option linter.unusedSimpArgs false
set_option linter.unusedVariables false

/- Small laws of hours and truths. -/
namespace Go.Proofs.YtmahocdmkpigjaaDoor
open Go Go.Ab

theorem mod_nat (a b : Nat) : (a : Int).tmod b = ((a % b : Nat) : Int) := by rw [Int.tmod_eq_emod_of_nonneg (by omega)]; rfl
theorem hoursP_mem {x y : Sp} {w v : Int} (h1 : x.1 ≤ w ∧ w ≤ x.2) (h2 : y.1 ≤ v ∧ v ≤ y.2) : (w, v) ∈ hoursP x y := by
  unfold hoursP hourRow
  simp only [List.mem_flatMap, List.mem_map, List.mem_range]
  refine ⟨(w - x.1).toNat, by unfold numS; omega, (v - y.1).toNat, by unfold numS; omega, ?_⟩
  rw [show x.1 + ((w - x.1).toNat : Int) = w by omega, show y.1 + ((v - y.1).toNat : Int) = v by omega]
theorem Tr_take {s : Su} {os : List Hour} (ht : Tr s os) (j : Nat) : Tr s (os.take j) := by
  intro i o ho
  rw [List.getElem?_take] at ho
  split at ho
  · exact ht i o ho
  · cases ho
end Go.Proofs.YtmahocdmkpigjaaDoor
