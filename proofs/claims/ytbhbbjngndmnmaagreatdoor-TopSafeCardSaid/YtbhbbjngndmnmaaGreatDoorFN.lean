/- Proved here: laws that the statements need (AbJ2). No conditions but those that each law states. -/
import Derived.Test.YtbhbbjngndmnmaaGreatDoorFG
set_option linter.unusedSimpArgs false
set_option linter.unusedVariables false
namespace Go.Ab
theorem Sub.ghostR {nb : Nat} {s : St} (id i es es0 : Nat) {xs : List E} (he : 0 < es) (h0 : 0 < es0) (h : s.σ[id]? = some (.row es0 xs)) (hc : xs[i]? = some (.t (.lit (.slice none 0 0)))) :
    Sub nb s { s with σ := s.σ.set id (.row es0 (xs.set i (.loc s.σ.length 0))) ++ [.row es []] } := fun C a w ι vis D hn X => by
  obtain ⟨M, g⟩ := X.mem.ghost he
  have X1 := X.go M g (Hp.le_refl _)
  have hlt := (List.getElem?_eq_some_iff.1 h).1
  have hix := (List.getElem?_eq_some_iff.1 hc).1
  have hob := M.objs id (.row es0 xs) (by rw [List.getElem?_append_left hlt]; exact h)
  obtain ⟨bc, hi⟩ : ∃ bc, ι id = some bc := by
    cases hi : ι id with
    | some bc => exact ⟨bc, rfl⟩
    | none =>
      rw [hi] at hob
      obtain ⟨e1, x1, hx, hz⟩ := hob
      cases hx
      rw [hz h0] at hix
      simp at hix
  obtain ⟨b, c⟩ := bc
  rw [hi] at hob
  obtain ⟨ob, hh, us, rest, ty, rfl, r, o1, o2, o3, o4, o5⟩ := hob
  have hset : s.σ.set id (.row es0 (xs.set i (.loc s.σ.length 0))) ++ [AO.row es []] = (s.σ ++ [AO.row es []]).set id (.row es0 (xs.set i (.loc s.σ.length 0))) := by
    rw [List.set_append_left _ _ hlt]
  have g2 : Goes ι (s.σ ++ [AO.row es []]) ι ((s.σ ++ [AO.row es []]).set id (.row es0 (xs.set i (.loc s.σ.length 0)))) := Goes.set (o := .row es0 xs) (by rw [List.getElem?_append_left hlt]; exact h) (by simp [AO.len?])
  have M2 : Mem C (C.k0 + s.k) ((s.σ ++ [AO.row es []]).set id (.row es0 (xs.set i (.loc s.σ.length 0)))) w ι vis D := by
    refine M.turn (w' := w) (ι' := ι) (row := none) (by simp; omega) _ ⟨Nat.le_refl _, rfl, rfl, rfl, fun _ _ _ => rfl⟩ (fun _ h => by cases h) (fun _ _ => rfl) (fun b c h => .inl ⟨c, h⟩) g2 ?_
    rw [hi]
    refine ⟨_, hh, us, rest, ty, rfl, ?_, o1, by rw [List.length_set]; exact o2, by rw [List.length_set]; exact o3, o4, o5⟩
    obtain ⟨hl, hr⟩ := RepEs_iff.1 r
    refine RepEs_iff.2 ⟨by simpa using hl, fun j x v hx hv => ?_⟩
    by_cases e : j = i
    · subst e
      rw [List.getElem?_set_self hix] at hx
      cases hx
      have r0 := hr j _ v hc hv
      unfold RepE RepT at r0
      subst r0
      exact (ghost_rep X.mem).mono g2 (Hp.le_refl _)
    · rw [List.getElem?_set_ne (Ne.symm e)] at hx
      exact (hr j x v hx hv).mono g2 (Hp.le_refl _)
  have g3 := g.trans g2
  rw [← hset] at M2 g3
  have hup := Up.of g3 (Hp.le_refl _) (Nat.le_refl w.heap.size) (vis := vis) fun i b c h => .inl ⟨i, c, h⟩
  exact ⟨ι, vis, X.go M2 g3 (Hp.le_refl _), UpN.of hn hup⟩
end Go.Ab
