/- Proved here: laws that the statements need (AbQ2). No conditions but those that each law states. -/
import Derived.Test.YtbhbbjngndmnmaaGreatDoorFJ
set_option linter.unusedSimpArgs false
set_option linter.unusedVariables false
namespace Go.Ab
section
variable {F : Fence} {n : Nat} {P : Program} {Q : Exit → Act → List Frame → World → Prop} {a : Act} {cs : List Frame} {w : World}
end
structure FnB (P : Program) (f : Nat) (nt : Nat) (d : Nat) (is : List AI) (na : Nat) : Prop where
  get : ∃ (fn : Func) (id : Nat) (r : Oper) (tail : List Oper) (ats : Array TypeId), P.funcs[f]? = some fn ∧ fn.body = some (.region id (r :: tail).toArray false) ∧ (fn.name == "runtime.NumGoroutine") = false ∧ fn.ntmps = nt ∧ na ≤ nt ∧ fn.results = #[] ∧
    r.op = .call { callee := .builtin .recover, args := #[], argTypes := ats } ∧ r.dst = some d ∧ r.guard = none ∧ d < nt ∧ compIs P nt (r :: tail).toArray tail = some is
end Go.Ab
