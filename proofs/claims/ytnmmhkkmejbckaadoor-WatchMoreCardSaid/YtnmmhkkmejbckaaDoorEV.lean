/- Proved here: laws that the statements need (WaV0b). No conditions but those that each law states. -/
import Derived.Test.YtnmmhkkmejbckaaDoorEF

set_option linter.unusedSimpArgs false
set_option linter.unusedVariables false

/- Owners and finds that are handed in. -/
namespace Go.Proofs.YtnmmhkkmejbckaaDoor
open Go Go.Ab Go.ChangeShapes Go.WideShapes Go.ChangeAt Go.RowKit

set_option maxRecDepth 100000 in
theorem open_owner {H : Type} {enc : TypeId × Value → H} {W : World} {base : Nat} {v : Value} {d : DataW H} {p : List MemPlace} (hval : Value.okWide Tryd.prog W .any base 59 v) (h : DataW.Trod enc Tryd.prog W 0 (fun _ => true) true 59 v d p) :
    ∃ o : Ow, RepT (Ab.hp (· < W.heap.size) W) (tOw o) v := by
  unfold Value.okWide at hval
  rw [Tryd.underlying59] at hval
  obtain ⟨cs, rfl, hsz, hrow⟩ := hval
  obtain ⟨fuel, h⟩ := h
  have h' : DataW.trod enc Tryd.prog W 0 (fun _ => true) true fuel 59 cs.toList = some (d, p) := h
  obtain ⟨ns, hk, hc⟩ := trod_num 20 kc59 cl59 h'
  obtain ⟨l, e, hl⟩ := owners_of (xs := [ns]) (fun y hy => by rw [List.mem_singleton] at hy; rw [hy]; exact hk)
  match l, hl with
  | [o], _ =>
    refine ⟨o, ?_⟩
    have e2 : elT Tryd.prog 59 kdO ns = tOw o := by simpa using e
    have r := elT_rep (P := Tryd.prog) (h := Ab.hp (· < W.heap.size) W) kc59 hk.len
    rw [e2] at r
    have e3 : elV Tryd.prog 59 kdO ns = .agg cs := by
      unfold elV
      rw [wd59, if_pos rfl, ← hc]
    rw [e3] at r
    exact r

set_option maxRecDepth 100000 in
theorem open_find {H : Type} {enc : TypeId × Value → H} {W : World} {base : Nat} {v : Value} {d : DataW H} {p : List MemPlace} (hval : Value.okWide Tryd.prog W .any base 53 v) (h : DataW.Trod enc Tryd.prog W 0 (fun _ => true) true 53 v d p) :
    ∃ o : Fi, RepT (Ab.hp (· < W.heap.size) W) (tFi o) v := by
  unfold Value.okWide at hval
  rw [Tryd.underlying53] at hval
  obtain ⟨cs, rfl, hsz, hrow⟩ := hval
  obtain ⟨fuel, h⟩ := h
  have h' : DataW.trod enc Tryd.prog W 0 (fun _ => true) true fuel 53 cs.toList = some (d, p) := h
  obtain ⟨ns, hk, hc⟩ := trod_num 20 kc53 cl53 h'
  obtain ⟨l, e, hl⟩ := finds_of (xs := [ns]) (fun y hy => by rw [List.mem_singleton] at hy; rw [hy]; exact hk)
  match l, hl with
  | [o], _ =>
    refine ⟨o, ?_⟩
    have e2 : elT Tryd.prog 53 kdF ns = tFi o := by simpa using e
    have r := elT_rep (P := Tryd.prog) (h := Ab.hp (· < W.heap.size) W) kc53 hk.len
    rw [e2] at r
    have e3 : elV Tryd.prog 53 kdF ns = .agg cs := by
      unfold elV
      rw [wd53, if_pos rfl, ← hc]
    rw [e3] at r
    exact r
end Go.Proofs.YtnmmhkkmejbckaaDoor
