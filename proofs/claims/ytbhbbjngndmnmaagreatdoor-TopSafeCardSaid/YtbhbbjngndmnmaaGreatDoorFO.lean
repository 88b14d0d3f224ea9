/- Proved here: laws that the statements need (AbLift2). No conditions but those that each law states. -/
import Derived.Test.YtbhbbjngndmnmaaGreatDoorFK
set_option linter.unusedSimpArgs false
set_option linter.unusedVariables false
namespace Go.Ab
open Go.ChangeShapes Go.WideShapes
variable {H : Type} {enc : TypeId × Value → H} {P : Program} {w : World}
theorem spot_of {a : Addr} {n base : Nat} {cs : List Value} (h : w.cells? base a n = some cs) (hn : 0 < n) : a.spot = none := by
  have e : a.add 0 = a := by unfold Addr.add; simp
  unfold World.cells? at h
  split at h
  · obtain ⟨_, q2⟩ := mapM_get h
    obtain ⟨y, _, hy⟩ := q2 0 0 (List.getElem?_range hn)
    rw [e] at hy
    cases hs : a.spot with
    | none => rfl
    | some s =>
      unfold World.cell? at hy
      split at hy
      · simp [hs] at hy
      · cases hy
  · cases h
theorem trod_rowG {base : Nat} {held : Bool} {t e : TypeId} {fuel : Nat} {v : Value} {x : DataW H × List MemPlace} (ht : P.underlying t = some (.slice e)) (h0 : 0 < P.cellsOf e) {Q : T → Prop}
    (hel : ∀ n cs y, DataW.trod enc P w base (fun _ => true) held n e cs = some y → cs.length = P.cellsOf e → ∃ x v, Q x ∧ RepT (hp (· < w.heap.size) w) x v ∧ v.cells.toList = cs ∧ ∀ u ∈ cs, One u)
    (htr : DataW.trod enc P w base (fun _ => true) held fuel t [v] = some x) :
    ∃ xs : List T, (∀ y ∈ xs, Q y) ∧ xs.length ≤ maxLen ∧ RepT (hp (· < w.heap.size) w) (.slice (P.cellsOf e) xs) v ∧ One v := by
  rcases DataW.trod_slice ht htr with ⟨h1, _⟩ | ⟨a, len, cap, elems, rest, n, _, h1, _, hb, hlc, hm, hlen, hels, hrest, _⟩
  · simp at h1
    subst h1
    refine ⟨[], by simp, by simp, ?_, rfl⟩
    unfold RepT
    exact ⟨none, 0, 0, rfl, rfl, Nat.le_refl _, .inl ⟨rfl, rfl, rfl⟩⟩
  · simp at h1
    subst h1
    by_cases hcap : cap = 0
    · have hl0 : len = 0 := by omega
      subst hcap hl0
      refine ⟨[], by simp, by simp, ?_, rfl⟩
      unfold RepT
      exact ⟨some a, 0, 0, rfl, rfl, Nat.le_refl _, .inl ⟨rfl, rfl, rfl⟩⟩
    have e0 : a.add 0 = a := by unfold Addr.add; simp
    have hspot : a.spot = none := by
      by_cases hl0 : len = 0
      · obtain ⟨hr1, hr2⟩ := hrest rfl
        have h2 := hr2 0 (by omega)
        rw [hl0, Nat.zero_add, Nat.zero_mul, e0, List.getElem?_eq_getElem (by omega)] at h2
        obtain ⟨cs, hc1, _⟩ := Option.bind_eq_some_iff.1 h2
        exact spot_of hc1 h0
      · have h2 := hels 0 (by omega)
        rw [Nat.zero_mul, e0, List.getElem?_eq_getElem (by omega)] at h2
        obtain ⟨cs, hc1, _⟩ := Option.bind_eq_some_iff.1 h2
        exact spot_of hc1 h0
    obtain ⟨b, o, spot⟩ := a
    simp only at hspot
    subst hspot
    have hadd : ∀ i : Nat, (⟨b, o, none⟩ : Addr).add i = ⟨b, o + i, none⟩ := fun i => addr_add b o i
    have one : ∀ i, i < len → ∃ x v, Q x ∧ RepT (hp (· < w.heap.size) w) x v ∧ v.cells.size = P.cellsOf e ∧ (∀ u ∈ v.cells.toList, One u) ∧ Lies (hp (· < w.heap.size) w) b (o + i * P.cellsOf e) v.cells.toList := by
      intro i hi
      have h2 := hels i hi
      rw [List.getElem?_eq_getElem (by omega)] at h2
      obtain ⟨cs, hc1, hc2⟩ := Option.bind_eq_some_iff.1 h2
      unfold World.cells? at hc1
      split at hc1
      · obtain ⟨q1, q2⟩ := mapM_get hc1
        rw [List.length_range] at q1
        obtain ⟨x, v, hQ, r, ev, o1⟩ := hel n cs _ hc2 q1
        refine ⟨x, v, hQ, r, by rw [← q1, ← ev]; simp, by rw [ev]; exact o1, ?_⟩
        rw [ev]
        have hcell : ∀ (j : Nat), j < P.cellsOf e → ∃ y, cs[j]? = some y ∧ w.cell? ⟨b, o + i * P.cellsOf e + j, none⟩ = some y := fun j hj => by
          obtain ⟨y, hy1, hy2⟩ := q2 j j (List.getElem?_range hj)
          refine ⟨y, hy1, ?_⟩
          rw [hadd, addr_add] at hy2
          exact hy2
        obtain ⟨y0, _, hy0⟩ := hcell 0 h0
        unfold World.cell? at hy0
        split at hy0
        · rename_i arr ty fr hob
          have hlt : b < w.heap.size := (Array.getElem?_eq_some_iff.1 hob).1
          refine ⟨arr, ty, fr, ⟨hlt, hob⟩, fun j v hv => ?_⟩
          have hjl : j < P.cellsOf e := by
            have := (List.getElem?_eq_some_iff.1 hv).1
            omega
          obtain ⟨y, hy1, hy2⟩ := hcell j hjl
          rw [hv] at hy1
          cases hy1
          unfold World.cell? at hy2
          simp only [hob] at hy2
          simpa using hy2
        · cases hy0
      · cases hc1
    have rows : ∀ m i, i + m = len → ∃ xs : List T, xs.length = m ∧ (∀ y ∈ xs, Q y) ∧ RepRow (hp (· < w.heap.size) w) (P.cellsOf e) xs b (o + i * P.cellsOf e) := by
      intro m
      induction m with
      | zero => intro i _; exact ⟨[], rfl, by simp, by unfold RepRow; trivial⟩
      | succ m ih =>
        intro i hi
        obtain ⟨x, v, hQ, r1, r2, r3, r4⟩ := one i (by omega)
        obtain ⟨xs, x1, x2, x3⟩ := ih (i + 1) (by omega)
        refine ⟨x :: xs, by simp [x1], fun y hy => by
          rcases List.mem_cons.1 hy with rfl | hy
          · exact hQ
          · exact x2 y hy, ?_⟩
        unfold RepRow
        refine ⟨⟨v, r1, r2, r3, r4⟩, ?_⟩
        rw [Nat.add_assoc, ← Nat.succ_mul]; exact x3
    obtain ⟨xs, x1, x2, x3⟩ := rows len 0 (by omega)
    refine ⟨xs, x2, by omega, ?_, rfl⟩
    unfold RepT
    refine ⟨_, _, _, rfl, by simp [x1], hlc, .inr ⟨b, o, rfl, by simpa using x3⟩⟩
theorem trod_row1 {base : Nat} {held : Bool} {d : Nat} {t e : TypeId} {ks : Kinds} {fuel : Nat} {v : Value} {x : DataW H × List MemPlace} (ht : P.underlying t = some (.slice e)) (hk : kcells P d e = some ks) (hl : ks.length = P.cellsOf e) (h0 : 0 < P.cellsOf e)
    (htr : DataW.trod enc P w base (fun _ => true) held fuel t [v] = some x) :
    ∃ xs : List T, (∀ y ∈ xs, ∃ ns, KWf ks ns ∧ y = elT P e ks ns) ∧ xs.length ≤ maxLen ∧ RepT (hp (· < w.heap.size) w) (.slice (P.cellsOf e) xs) v ∧ One v :=
  trod_rowG ht h0 (fun n cs y h hcs => by
    obtain ⟨ns, w1, e1⟩ := trod_num d hk hl h
    refine ⟨elT P e ks ns, elV P e ks ns, ⟨ns, w1, rfl⟩, elT_rep hk (KWf.len w1), ?_, ?_⟩
    · rw [elV_cells hk (KWf.len w1), e1]
    · rw [e1]; exact kc_one _ _) htr
theorem trod_row2 {base : Nat} {held : Bool} {d : Nat} {t t' e : TypeId} {ks : Kinds} {fuel : Nat} {v : Value} {x : DataW H × List MemPlace} (ht : P.underlying t = some (.slice t')) (ht' : P.underlying t' = some (.slice e)) (h1 : P.cellsOf t' = 1)
    (hk : kcells P d e = some ks) (hl : ks.length = P.cellsOf e) (h0 : 0 < P.cellsOf e) (htr : DataW.trod enc P w base (fun _ => true) held fuel t [v] = some x) :
    ∃ xs : List T, (∀ y ∈ xs, ∃ ys : List T, (∀ z ∈ ys, ∃ ns, KWf ks ns ∧ z = elT P e ks ns) ∧ ys.length ≤ maxLen ∧ y = .slice (P.cellsOf e) ys) ∧ xs.length ≤ maxLen ∧ RepT (hp (· < w.heap.size) w) (.slice 1 xs) v ∧ One v := by
  rw [← h1]
  refine trod_rowG ht (by omega) (fun n cs y h hcs => ?_) htr
  obtain ⟨u, rfl⟩ : ∃ u, cs = [u] := by
    match cs, hcs with
    | [u], _ => exact ⟨u, rfl⟩
    | [], h => simp at h; omega
    | _ :: _ :: _, h => simp at h; omega
  obtain ⟨ys, y1, y2, y3, y4⟩ := trod_row1 ht' hk hl h0 h
  refine ⟨.slice (P.cellsOf e) ys, u, ⟨ys, y1, y2, rfl⟩, y3, ?_, fun z hz => ?_⟩
  · unfold One at y4
    cases u <;> simp_all [Value.oneCell', Value.cells]
  · simp at hz; subst hz; exact y4
end Go.Ab
