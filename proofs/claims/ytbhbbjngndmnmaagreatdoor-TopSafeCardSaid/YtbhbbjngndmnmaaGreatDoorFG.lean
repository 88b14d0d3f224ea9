/- Proved here: laws that the statements need (AbI, AbJ, AbJ1, AbK). No conditions but those that each law states. -/
import Derived.Test.YtbhbbjngndmnmaaGreatDoorFF
import Derived.Great.BuildSlice
set_option linter.unusedSimpArgs false
set_option linter.unusedVariables false
namespace Go.Ab
section
variable {C : Cx} {s : St} {a : Act} {w : World} {ι : Pl} {vis D : Nat → Prop}
theorem zV_spec {P : Program} {t : TypeId} {z : Value} {ag : Bool} {k : Nat} (h : zV P t = some z) (ht : tyI P t = some (ag, k)) : ∃ i, P.info? t = some i ∧ i.zero = some z ∧ i.size = k ∧ z.cells.size = k ∧ ∀ u ∈ z.cells.toList, One u := by
  unfold zV at h
  unfold tyI at ht
  split at h
  · rename_i i hi
    split at h
    · rename_i v hv
      split at h
      · rename_i ho
        cases h
        simp only [Bool.and_eq_true, beq_iff_eq] at ho
        split at ht
        · rename_i d j h1 h2
          rw [hi] at h2
          cases h2
          cases ht
          exact ⟨i, hi, hv, rfl, ho.2, fun u hu => List.all_eq_true.1 ho.1 u hu⟩
        · cases ht
      · cases h
    · cases h
  · cases h
theorem zeroE_rep {yl : Nat} {σ : List AO} {h : Hp} {z : Value} (o1 : ∀ u ∈ z.cells.toList, One u) : RepE yl ι σ h (zeroE z) z := by
  cases z with
  | agg cs =>
    simp only [zeroE]
    unfold RepE RepT
    refine ⟨cs.toList, by simp, ?_, by simpa [Value.cells] using o1⟩
    rw [RepTs_iff]
    refine ⟨by simp, fun i x v hx hv => ?_⟩
    rw [List.getElem?_map] at hx
    rw [hv] at hx
    cases hx
    unfold RepT
    rfl
  | _ => simp only [zeroE]; unfold RepE RepT; rfl
theorem madeCells_flat (z : Value) (k n : Nat) (hk : z.cells.size = k) : (madeCells z.cells (n * k)).toList = (List.replicate n z).flatMap (·.cells.toList) := by
  have hs : ∀ v ∈ List.replicate n z, v.cells.size = k := fun v hv => by rw [(List.mem_replicate.1 hv).2]; exact hk
  apply List.ext_getElem?
  intro j
  by_cases hj : j < n * k
  · have hk0 : 0 < k := Nat.pos_of_ne_zero fun e => by simp [e] at hj
    have h1 : j / k < n := (Nat.div_lt_iff_lt_mul hk0).2 hj
    have h2 : j % k < k := Nat.mod_lt _ hk0
    have hf := flat_get hs (i := j / k) (v := z) (by rw [List.getElem?_replicate, if_pos h1]) (j % k) (z.cells.toList[j % k]'(by simp [hk]; exact h2)) (List.getElem?_eq_getElem _)
    rw [show j / k * k + j % k = j from Nat.div_add_mod' j k] at hf
    rw [hf]
    have hlt : j % k < z.cells.size := by rw [hk]; exact h2
    simp [madeCells, hj, hk, getElem!_pos z.cells (j % k) hlt]
  · rw [List.getElem?_eq_none (by simp [madeCells]; omega), List.getElem?_eq_none (by rw [flat_length hs]; simp; omega)]
theorem new_row (X : InvX C s a w ι vis D) {w' : World} (st : Step w w' none) {es c : Nat} {xs : List E} {vs rest : List Value} {ty : TypeId} {b : Nat} (hb : w.heap.size ≤ b ∧ b < w'.heap.size)
    (hh : w'.heap[b]? = some (.cells (vs.flatMap (·.cells.toList) ++ rest).toArray ty (0, 0))) (r : RepEs C.yl ι s.σ (hp vis w) xs vs)
    (hs : ∀ v ∈ vs, v.cells.size = es ∧ ∀ u ∈ v.cells.toList, One u) (hl : xs.length * es + rest.length = c * es) (hc : xs.length ≤ c) (hm : c ≤ maxLen) (hes : 0 < es) :
    ∃ ι', InvX C { s with σ := s.σ ++ [.row es xs] } a w' ι' vis D ∧ Up ι s.σ vis w ι' (s.σ ++ [.row es xs]) vis w' ∧
      RepE C.yl ι' (s.σ ++ [.row es xs]) (hp vis w') (.loc s.σ.length xs.length) (.slice (some ⟨b, 0, none⟩) xs.length c) := by
  let ι' : Pl := fun i => if i = s.σ.length then some (b, c) else if i < s.σ.length then ι i else none
  have hn : ι' s.σ.length = some (b, c) := by simp [ι']
  have hle := hp_step st (vis := vis) fun b hb => ⟨X.mem.visLt b hb, by simp⟩
  have hoth : ∀ j, j < s.σ.length → ι' j = ι j := fun j hj => by simp [ι', Nat.ne_of_lt hj, hj]
  have g : Goes ι s.σ ι' (s.σ ++ [.row es xs]) := ⟨by simp, fun id hid hl => ⟨by unfold rowLen at *; rw [List.getElem?_append_left hid]; exact hl, hoth id hid⟩,
    fun id n hid hl => ⟨n, by unfold rowLen at *; rw [List.getElem?_append_left hid]; exact hl, Nat.le_refl _, fun _ => hoth id hid⟩⟩
  obtain ⟨M, _⟩ := X.mem.push (ι' := ι') (.row es xs) st hoth (fun j hj => by simp only [ι']; rw [if_neg (by omega), if_neg (by omega)]) (fun b' c' h => by rw [hn] at h; cases h; exact hb)
    (by rw [hn]; exact ⟨_, hh, vs, rest, ty, rfl, r.mono g hle, hs, hl, hc, hm, hes⟩)
  refine ⟨ι', X.go M g hle, Up.of g hle st.size (fun i b' c' h => ?_), ?_⟩
  · by_cases hi : i = s.σ.length
    · subst hi; rw [hn] at h; cases h; exact .inr hb.1
    · by_cases hi' : i < s.σ.length
      · rw [hoth i hi'] at h; exact .inl ⟨i, c', h⟩
      · simp [ι', hi, hi'] at h
  unfold RepE
  have hrl : rowLen (s.σ ++ [.row es xs]) s.σ.length = some xs.length := by simp [rowLen, AO.len?]
  exact ⟨by simp, by rw [hrl]; rfl, by rw [hrl]; simp, rfl, fun _ => .inl ⟨b, c, hn, rfl⟩⟩
theorem fillR_ok (X : InvX C s a w ι vis D) {es : Nat} : ∀ {ps : List (Nat × Operand)} {qs : List (Nat × Opd)} (_ : cPartsR C.P ps = some qs) {xs xs' : List E} {vs : List Value} (_ : fillR s.env es qs xs = some xs')
    (_ : RepEs C.yl ι s.σ (hp vis w) xs vs) (_ : ∀ v ∈ vs, v.cells.size = es ∧ ∀ u ∈ v.cells.toList, One u),
    ∃ vs', Instr.fill (fun i => some (i * es, es)) (vs.flatMap (·.cells.toList)).toArray (ps.map fun (i, x) => (i, a.eval x)) = some (vs'.flatMap (·.cells.toList)).toArray ∧ RepEs C.yl ι s.σ (hp vis w) xs' vs' ∧
      (∀ v ∈ vs', v.cells.size = es ∧ ∀ u ∈ v.cells.toList, One u) ∧ xs'.length = xs.length
  | [], qs, h, xs, xs', vs, hf, r, hs => by
    simp only [cPartsR] at h
    cases h
    simp only [fillR] at hf
    cases hf
    exact ⟨vs, rfl, r, hs, rfl⟩
  | (i, x) :: ps, qs, h, xs, xs', vs, hf, r, hs => by
    simp only [cPartsR] at h
    split at h
    · rename_i y ys h2 h3
      cases h
      simp only [fillR] at hf
      split at hf
      · rename_i us hus
        split at hf
        · rename_i hc
          obtain ⟨hk, hlt⟩ := hc
          have rx := ev_ok X h2
          obtain ⟨rv, ov⟩ := rx.cells hus
          have hl := r.length
          have hvl := rv.length
          have hsz : (a.eval x).cells.size = es := by simpa [hk] using hvl.symm
          have hs1 := fun v hv => (hs v hv).1
          have hi : i < vs.length := by omega
          have hvi : vs[i]? = some vs[i] := List.getElem?_eq_getElem hi
          have hsi := hs1 _ (List.mem_of_getElem? hvi)
          obtain ⟨vs', e, r', hs', hl'⟩ := fillR_ok X h3 (xs := xs.set i (y.ev s.env)) (vs := vs.set i (a.eval x)) hf (r.set i rx) (fun v hv => by
            rcases List.mem_or_eq_of_mem_set hv with h | rfl
            · exact hs v h
            · exact ⟨hsz, ov⟩)
          refine ⟨vs', ?_, r', hs', by rw [hl', List.length_set]⟩
          have hfl := flat_length hs1
          have hmul : i * es + es ≤ vs.length * es := by rw [← Nat.succ_mul]; exact Nat.mul_le_mul_right _ hi
          simp only [List.map_cons, Instr.fill]
          rw [if_neg (fun hcon => by
            simp only [Bool.or_eq_true, decide_eq_true_eq] at hcon
            rcases hcon with h | h
            · exact h hsz
            · rw [hsz, List.size_toArray, hfl] at h; omega)]
          have hst := fill_step (vs.flatMap (·.cells.toList)).toArray (a.eval x) (i * es) (by rw [hsz, List.size_toArray, hfl]; exact hmul)
          have hsp := flat_splice hs1 hvi (v' := a.eval x) (off := 0) (us := (a.eval x).cells.toList) (by simp [hsz]) (by
            unfold splice
            rw [List.take_zero, List.nil_append, Nat.zero_add, List.drop_eq_nil_of_le (by simp [hsz, hsi]), List.append_nil]) []
          simp only [List.append_nil, Nat.add_zero] at hsp
          rw [← e]
          congr 1
          apply Array.toList_inj.1
          simp only at hst
          rw [hst, hsp]
        · cases hf
      · cases hf
    · cases h
theorem op_bslice (X : InvX C s a w ι vis D) {o : Oper} {t e : TypeId} {n k : Nat} {ag : Bool} {ps : Array (Nat × Operand)} {z : Value} {qs : List (Nat × Opd)} (ho : o.op = .buildSlice t n ps) (ht : C.P.underlying t = some (.slice e))
    (hk : tyI C.P e = some (ag, k)) (hz : zV C.P e = some z) (hq : cPartsR C.P ps.toList = some qs) (hn : n * k ≤ 2 ^ 24) (hk0 : 0 < k) : ResOK C s o a w ι vis D ((AOp.bslice k z n qs).ex s.env s.σ) := by
  obtain ⟨i, hi, hiz, his, hzs, o1⟩ := zV_spec hz hk
  simp only [AOp.ex]
  split
  · rename_i xs hxs
    have r0 : RepEs C.yl ι s.σ (hp vis w) (List.replicate n (zeroE z)) (List.replicate n z) := by
      rw [RepEs_iff]
      refine ⟨by simp, fun j x v hx hv => ?_⟩
      rw [List.getElem?_replicate] at hx hv
      split at hx
      · rename_i hj
        rw [if_pos hj] at hv
        cases hx
        cases hv
        exact zeroE_rep o1
      · cases hx
    have hs0 : ∀ v ∈ List.replicate n z, v.cells.size = k ∧ ∀ u ∈ v.cells.toList, One u := fun v hv => by rw [(List.mem_replicate.1 hv).2]; exact ⟨hzs, o1⟩
    obtain ⟨vs', e1, r', hs', hl'⟩ := fillR_ok X hq hxs r0 hs0
    have hl : xs.length = n := by rw [hl']; simp
    have hcells : (Array.range (n * k)).map (z.cells[· % z.cells.size]!) = ((List.replicate n z).flatMap (·.cells.toList)).toArray := by
      apply Array.toList_inj.1
      exact madeCells_flat z k n hzs
    have hrun : (execOp a.eval o).run C.P w = .ok (.value (.slice (some ⟨w.heap.size, 0, none⟩) n n)) (w.alloc (.cells (vs'.flatMap (·.cells.toList)).toArray e)) := by
      unfold execOp
      simp only [ho]
      by_cases h0 : n * k = 0
      · have hn0 : n = 0 := by
          rcases Nat.mul_eq_zero.1 h0 with h | h
          · exact h
          · omega
        subst hn0
        have e1' := e1
        simp only [List.replicate_zero, List.flatMap_nil] at e1'
        simp [Instr.buildSlice, run_underlying ht, sizeOf, typeInfo, hi, his, newRow, Array.range_zero', e1']
      · have := run_buildSlice (P := C.P) w t e n (ps.map fun (i, x) => (i, a.eval x)) (vs'.flatMap (·.cells.toList)).toArray i z ht hi hiz (by rw [his]; omega) (by rw [his]; exact h0)
          (by rw [his, hcells, Array.toList_map]; exact e1)
        simp only at this
        simp [this]
    obtain ⟨ι', X', up, r''⟩ := new_row X (Step.alloc w (.cells (vs'.flatMap (·.cells.toList)).toArray e)) (b := w.heap.size) (es := k) (c := n) (rest := []) (by simp) (by simpa using heap_alloc_new w _) r' hs' (by rw [hl]; simp) (by omega)
      (by
        have : n ≤ n * k := Nat.le_mul_of_pos_right n hk0
        unfold maxLen
        omega) hk0
    rw [hl] at r''
    exact ⟨_, _, ι', .inl hrun, X', up, r''⟩
  · trivial
theorem RepRow.vals {h : Hp} {es : Nat} : ∀ {xs : List T} {b o : Nat} (_ : RepRow h es xs b o), ∃ vs, RepTs h xs vs ∧ (∀ v ∈ vs, v.cells.size = es ∧ ∀ u ∈ v.cells.toList, One u) ∧
    ∀ (j : Nat) u, (vs.flatMap (·.cells.toList))[j]? = some u → ∃ arr ty fr, h b (.cells arr ty fr) ∧ arr[o + j]? = some u
  | [], _, _, _ => ⟨[], by unfold RepTs; rfl, by simp, by simp⟩
  | x :: xs, b, o, r => by
    unfold RepRow at r
    obtain ⟨⟨v, r1, r2, r3, arr, ty, fr, hb, hc⟩, r4⟩ := r
    obtain ⟨vs, q1, q2, q3⟩ := RepRow.vals r4
    refine ⟨v :: vs, by unfold RepTs; exact ⟨v, vs, rfl, r1, q1⟩, ?_, ?_⟩
    · intro u hu
      rcases List.mem_cons.1 hu with rfl | hu
      · exact ⟨r2, r3⟩
      · exact q2 u hu
    · intro j u hu
      simp only [List.flatMap_cons] at hu
      have hl : v.cells.toList.length = es := by simpa using r2
      by_cases hj : j < v.cells.toList.length
      · rw [List.getElem?_append_left hj] at hu
        exact ⟨arr, ty, fr, hb, hc j u hu⟩
      · rw [List.getElem?_append_right (by omega), hl] at hu
        obtain ⟨arr', ty', fr', hb', hc'⟩ := q3 _ u hu
        exact ⟨arr', ty', fr', hb', by rw [← hc']; congr 1; omega⟩
theorem firstK {P : Program} (w : World) (es k : Nat) (b : Addr) (l c : Nat) (vs : List Value) (hk : k ≤ vs.length) (hs : ∀ v ∈ vs, v.cells.size = es)
    (h : ∀ j v, (vs.flatMap (·.cells.toList))[j]? = some v → w.cell? (b.add j) = some v) : (Builtin.firstCells es k (.slice (some b) l c)).run P w = .ok ((vs.take k).flatMap (·.cells.toList)).toArray w := by
  refine run_firstCells_some w es k b l c _ (by rw [flat_length (fun v hv => hs v (List.mem_of_mem_take hv)), List.length_take, Nat.min_eq_left hk]) (fun j u hu => h j u ?_)
  conv => lhs; rw [← List.take_append_drop k vs, List.flatMap_append]
  rw [List.getElem?_append_left (List.getElem?_eq_some_iff.1 hu).1]
  exact hu
theorem elts_okK (X : InvX C s a w ι vis D) {es : Nat} {e : E} {ys : List E} {v : Value} (he : elts? s.σ es e = some ys) (r : RepE C.yl ι s.σ (hp vis w) e v) :
    ∃ ad c vs, v = .slice ad ys.length c ∧ RepEs C.yl ι s.σ (hp vis w) ys vs ∧ (∀ v ∈ vs, v.cells.size = es ∧ ∀ u ∈ v.cells.toList, One u) ∧
      (∀ k, k ≤ ys.length → (Builtin.firstCells es k v).run C.P w = .ok ((vs.take k).flatMap (·.cells.toList)).toArray w) ∧ (e = .t (.lit (.slice none 0 0)) → v = .slice none 0 0) := by
  unfold elts? at he
  split at he
  · rename_i es' xs
    split at he
    · rename_i h
      subst h
      cases he
      unfold RepE RepT at r
      obtain ⟨ad, n, c, rfl, rfl, _, hr⟩ := r
      rcases hr with ⟨h0, rfl, rfl⟩ | ⟨b, o, rfl, hrow⟩
      · cases ad with
        | none => exact ⟨none, 0, [], rfl, by simp only [List.map_nil]; unfold RepEs; rfl, by simp, fun k hk => by simp [Builtin.firstCells], fun h => by cases h⟩
        | some a' => exact ⟨some a', 0, [], rfl, by simp only [List.map_nil]; unfold RepEs; rfl, by simp, fun k hk => firstK w es' k a' _ 0 [] hk (by simp) (fun j u hu => by simp at hu), fun h => by cases h⟩
      · obtain ⟨vs, q1, q2, q3⟩ := hrow.vals
        refine ⟨_, c, vs, by simp; rfl, RepEs.map_t q1, q2, fun k hk => ?_, fun h => by cases h⟩
        have hl := (RepTs_iff.1 q1).1
        refine firstK w es' k ⟨b, o, none⟩ _ c vs (by rw [List.length_map] at hk; omega) (fun v hv => (q2 v hv).1) (fun j u hu => ?_)
        obtain ⟨arr, ty, fr, ⟨_, hb⟩, hc⟩ := q3 j u hu
        rw [addr_add, cell_of_heap hb]
        exact hc
    · cases he
  · cases he
    unfold RepE RepT at r
    subst r
    exact ⟨none, 0, [], rfl, by unfold RepEs; rfl, by simp, fun k hk => by simp [Builtin.firstCells], fun _ => rfl⟩
  · rename_i id n
    split at he
    · rename_i es' xs ho
      split at he
      · rename_i h
        obtain ⟨hn, rfl⟩ := h
        cases he
        unfold RepE at r
        obtain ⟨_, _, _, _, g⟩ := r
        have hob := X.mem.objs id _ ho
        rcases g (by rw [rowLen_some ho, hn]) with ⟨b, c, hi, rfl⟩ | ⟨hi, rfl, rfl⟩
        · rw [hi] at hob
          obtain ⟨ob, hh, vs, rest, ty, rfl, q1, q2, _⟩ := hob
          refine ⟨_, c, vs, by rw [hn], q1, q2, fun k hk => ?_, fun h => by cases h⟩
          refine firstK w es' k ⟨b, 0, none⟩ _ c vs (by rw [← q1.length]; exact hk) (fun v hv => (q2 v hv).1) (fun j u hu => ?_)
          rw [addr_add, cell_of_heap hh]
          simp only [List.getElem?_toArray, Nat.zero_add]
          rw [List.getElem?_append_left (List.getElem?_eq_some_iff.1 hu).1]
          exact hu
        · have : ys = [] := List.eq_nil_of_length_eq_zero hn
          subst this
          exact ⟨none, 0, [], rfl, by unfold RepEs; rfl, by simp, fun k hk => by simp [Builtin.firstCells], fun _ => rfl⟩
      · cases he
    · cases he
  · rename_i id n es'' lo ln
    split at he
    · rename_i es' xs ho
      split at he
      · rename_i h
        obtain ⟨hn, rfl, rfl, hle⟩ := h
        cases he
        unfold RepE at r
        obtain ⟨_, _, _, _, g⟩ := r
        have hob := X.mem.objs id _ ho
        obtain ⟨_, g⟩ := g (by rw [rowLen_some ho, hn])
        have hlen : ((xs.drop lo).take ln).length = ln := by rw [List.length_take, List.length_drop]; omega
        rcases g with ⟨b, c, o, hi, rfl, hoo, _⟩ | ⟨hi, hn0, rfl⟩
        · rw [hi] at hob
          obtain ⟨ob, hh, vs, rest, ty, rfl, q1, q2, _⟩ := hob
          have hvl := q1.length
          have q3 : ∀ v ∈ (vs.drop lo).take ln, v.cells.size = es'' ∧ ∀ u ∈ v.cells.toList, One u := fun v hv => q2 v (List.mem_of_mem_drop (List.mem_of_mem_take hv))
          refine ⟨_, c - lo, (vs.drop lo).take ln, by rw [hlen], (q1.drop lo).take ln, q3, fun k hk => ?_, fun h => by cases h⟩
          rw [hlen] at hk
          refine firstK w es'' k ⟨b, o, none⟩ _ (c - lo) _ (by rw [List.length_take, List.length_drop]; omega) (fun v hv => (q3 v hv).1) (fun j u hu => ?_)
          rcases hoo with rfl | h0
          · rw [addr_add, cell_of_heap hh]
            simp only [List.getElem?_toArray]
            have e2 : vs = vs.take lo ++ ((vs.drop lo).take ln ++ (vs.drop lo).drop ln) := by rw [List.take_append_drop, List.take_append_drop]
            have e3 : ((vs.take lo).flatMap (·.cells.toList)).length = lo * es'' := by
              rw [flat_length (fun v hv => (q2 v (List.mem_of_mem_take hv)).1), List.length_take]
              congr 1
              omega
            conv => lhs; rw [e2, List.flatMap_append, List.flatMap_append, List.append_assoc]
            rw [List.getElem?_append_right (by omega), e3, Nat.add_sub_cancel_left, List.append_assoc, List.getElem?_append_left (List.getElem?_eq_some_iff.1 hu).1]
            exact hu
          · subst h0
            simp at hu
        · have h0 : ln = 0 := by omega
          subst h0
          exact ⟨none, 0, [], by simp, by simp only [List.take_zero]; unfold RepEs; rfl, by simp, fun k hk => by simp [Builtin.firstCells], fun h => by cases h⟩
      · cases he
    · cases he
  · cases he
theorem elts_ok (X : InvX C s a w ι vis D) {es : Nat} {e : E} {ys : List E} {v : Value} (he : elts? s.σ es e = some ys) (r : RepE C.yl ι s.σ (hp vis w) e v) :
    ∃ ad c vs, v = .slice ad ys.length c ∧ RepEs C.yl ι s.σ (hp vis w) ys vs ∧ (∀ v ∈ vs, v.cells.size = es ∧ ∀ u ∈ v.cells.toList, One u) ∧
      (Builtin.firstCells es ys.length v).run C.P w = .ok (vs.flatMap (·.cells.toList)).toArray w ∧ (e = .t (.lit (.slice none 0 0)) → v = .slice none 0 0) := by
  obtain ⟨ad, c, vs, h1, h2, h3, h4, h5⟩ := elts_okK X he r
  have h4 := h4 _ (Nat.le_refl _)
  rw [h2.length, List.take_length] at h4
  exact ⟨ad, c, vs, h1, h2, h3, by rw [h2.length]; exact h4, h5⟩
section
variable {P : Program}
theorem run_app_grow (w : World) (t ty e : TypeId) (i : TypeInfo) (z : Value) (ht : P.underlying t = some (.slice e)) (hi : P.info? e = some i) (hz : i.zero = some z)
    (base : Option Addr) (n cap m : Nat) (olds news : List Value) (x : Value) (hlen : (Builtin.lenOf x).run P w = .ok m w)
    (ho : (Builtin.firstCells i.size n (.slice base n cap)).run P w.drew = .ok olds.toArray w.drew) (hn : (Builtin.firstCells i.size m x).run P w.drew = .ok news.toArray w.drew)
    (hg : cap < n + m) (h63 : n + m ≤ maxLen) (hb : (n + m) * i.bytes ≤ 140737488355328) :
    (Builtin.append_ #[t, t] ty #[.slice base n cap, x]).run P w =
      .ok (.slice (some ⟨w.heap.size, 0, none⟩) (n + m) (grownCap w (n + m) cap e))
        (w.drew.alloc (.cells (olds.toArray ++ news.toArray ++ Builtin.zeroCells z.cells (grownCap w (n + m) cap e - (n + m))) e)) := by
  have hn' : ¬ (n + m ≤ cap) := by omega
  have h63' : ¬ (9223372036854775807 < ((n : Int) + (m : Int))) := by unfold maxLen at h63; omega
  have hfit := growslice_fits hg hb
  have h48' : ¬ (281474976710656 < Builtin.nextslicecap (n + m) cap * i.bytes) := by omega
  simp [Builtin.append_, run_underlying ht, sizeOf, typeInfo, zeroValue, hi, hz, hlen, hn', h63', h48', Question.forced, hn, ho, newRow, grownCap]
  congr 2
  apply Array.ext'
  simp [List.append_assoc]
theorem run_app_room (w : World) (t ty e e' : TypeId) (i : TypeInfo) (ht : P.underlying t = some (.slice e)) (hi : P.info? e = some i)
    (g n cap m : Nat) (cur : Array Value) (hg : w.heap[g]? = some (.cells cur e' (0, 0))) (news : List Value) (x : Value) (hlen : (Builtin.lenOf x).run P w = .ok m w)
    (hn : (Builtin.firstCells i.size m x).run P w = .ok news.toArray w) (h1 : ∀ u ∈ news, u.oneCell' = true) (hroom : n + m ≤ cap) (hfit : n * i.size + news.length ≤ cur.size) :
    (Builtin.append_ #[t, t] ty #[.slice (some ⟨g, 0, none⟩) n cap, x]).run P w =
      .ok (.slice (some ⟨g, 0, none⟩) (n + m) cap) (w.setRow g (splice cur.toList (n * i.size) news).toArray) := by
  have hst := run_storeCells_at P g (n * i.size) e' news 0 cur w hg (by simpa using hfit) h1
  simp only [Nat.add_zero] at hst
  simp [Builtin.append_, run_underlying ht, sizeOf, typeInfo, hi, hlen, hroom, hn, Addr.add_lit, hst, splice]
end
theorem grow_row (X : InvX C s a w ι vis D) {w' : World} {row : Option Nat} (st : Step w w' row) {id es c : Nat} {xs ys : List E} (ho : s.σ[id]? = some (.row es xs)) {vs rest : List Value} {ty : TypeId} {b : Nat}
    (hrow : ∀ b, row = some b → ∃ c, ι id = some (b, c)) (hb : (∃ c', ι id = some (b, c') ∧ (ys = [] → c' = c)) ∨ (w.heap.size ≤ b ∧ b < w'.heap.size ∧ ys ≠ []))
    (hh : w'.heap[b]? = some (.cells (vs.flatMap (·.cells.toList) ++ rest).toArray ty (0, 0))) (r : RepEs C.yl ι s.σ (hp vis w) (xs ++ ys) vs)
    (hs : ∀ v ∈ vs, v.cells.size = es ∧ ∀ u ∈ v.cells.toList, One u) (hl : (xs ++ ys).length * es + rest.length = c * es) (hc : (xs ++ ys).length ≤ c) (hm : c ≤ maxLen) (hes : 0 < es) (hcap : ∀ c', ι id = some (b, c') → c' = c) :
    ∃ ι', InvX C { s with σ := s.σ.set id (.row es (xs ++ ys)) } a w' ι' vis D ∧ Up ι s.σ vis w ι' (s.σ.set id (.row es (xs ++ ys))) vis w' ∧
      RepE C.yl ι' (s.σ.set id (.row es (xs ++ ys))) (hp vis w') (.loc id (xs ++ ys).length) (.slice (some ⟨b, 0, none⟩) (xs ++ ys).length c) := by
  have hid : id < s.σ.length := (List.getElem?_eq_some_iff.1 ho).1
  let ι' : Pl := fun i => if i = id then some (b, c) else ι i
  have hn : ι' id = some (b, c) := by simp [ι']
  have hoth : ∀ j, j ≠ id → ι' j = ι j := fun j hj => by simp [ι', hj]
  have hle := hp_step st (vis := vis) fun b' hb' => ⟨X.mem.visLt b' hb', fun e => by
    obtain ⟨c', hc'⟩ := hrow b' e.symm
    exact (X.mem.own id b' c' hc').2.2.1 hb'⟩
  have hrl : rowLen (s.σ.set id (.row es (xs ++ ys))) id = some (xs ++ ys).length := by simp [rowLen, hid, AO.len?]
  have g : Goes ι s.σ ι' (s.σ.set id (.row es (xs ++ ys))) := by
    refine ⟨by simp, fun j hj hl => ?_, fun j n hj hl => ?_⟩
    · have hne : j ≠ id := fun e => by subst e; rw [rowLen_some ho] at hl; cases hl
      exact ⟨by unfold rowLen at *; rw [List.getElem?_set_ne (Ne.symm hne)]; exact hl, hoth j hne⟩
    · by_cases hne : j = id
      · subst hne
        rw [rowLen_some ho] at hl
        cases hl
        refine ⟨_, hrl, by simp, fun e => ?_⟩
        have hy : ys = [] := by
          rw [List.length_append] at e
          exact List.eq_nil_of_length_eq_zero (by omega)
        rcases hb with ⟨c', hc', he⟩ | ⟨_, _, hne⟩
        · rw [hn, hc', he hy]
        · exact absurd hy hne
      · exact ⟨n, by unfold rowLen at *; rw [List.getElem?_set_ne (Ne.symm hne)]; exact hl, Nat.le_refl _, fun _ => hoth j hne⟩
  have M := X.mem.turn (ι' := ι') hid (.row es (xs ++ ys)) st hrow hoth (fun b' c' h => by
    rw [hn] at h
    cases h
    rcases hb with ⟨c', hc', _⟩ | ⟨h1, h2, _⟩
    · exact .inl ⟨c', hc'⟩
    · exact .inr ⟨h1, h2⟩) g (by rw [hn]; exact ⟨_, hh, vs, rest, ty, rfl, r.mono g hle, hs, hl, hc, hm, hes⟩)
  refine ⟨ι', X.go M g hle, Up.of g hle st.size (fun i b' c' h => ?_), ?_⟩
  · by_cases hi : i = id
    · subst hi
      rw [hn] at h
      cases h
      rcases hb with ⟨c', hc', _⟩ | ⟨h1, _⟩
      · exact .inl ⟨_, c', hc'⟩
      · exact .inr h1
    · rw [hoth i hi] at h; exact .inl ⟨i, c', h⟩
  unfold RepE
  exact ⟨by simpa using hid, by rw [hrl]; rfl, by rw [hrl]; simp, rfl, fun _ => .inl ⟨b, c, hn, rfl⟩⟩
theorem move_row (X : InvX C s a w ι vis D) {w' : World} {id es c b : Nat} {xs xs' : List E} (st : Step w w' (some b)) (ho : s.σ[id]? = some (.row es xs)) (hi : ι id = some (b, c)) {vs rest : List Value} {ty : TypeId}
    (hh : w'.heap[b]? = some (.cells (vs.flatMap (·.cells.toList) ++ rest).toArray ty (0, 0))) (r : RepEs C.yl ι s.σ (hp vis w) xs' vs) (hs : ∀ v ∈ vs, v.cells.size = es ∧ ∀ u ∈ v.cells.toList, One u)
    (hl : xs'.length * es + rest.length = c * es) (hc : xs'.length ≤ c) (hm : c ≤ maxLen) (hes : 0 < es) :
    ∃ ι', InvX C { s with σ := s.σ.set id (.row 0 (List.replicate (xs.length + 1) .undef)) ++ [.row es xs'] } a w' ι' vis D ∧
      Up ι s.σ vis w ι' (s.σ.set id (.row 0 (List.replicate (xs.length + 1) .undef)) ++ [.row es xs']) vis w' ∧
      RepE C.yl ι' (s.σ.set id (.row 0 (List.replicate (xs.length + 1) .undef)) ++ [.row es xs']) (hp vis w') (.loc s.σ.length xs'.length) (.slice (some ⟨b, 0, none⟩) xs'.length c) := by
  have hid : id < s.σ.length := (List.getElem?_eq_some_iff.1 ho).1
  let σ' : List AO := s.σ.set id (.row 0 (List.replicate (xs.length + 1) .undef)) ++ [.row es xs']
  let ι' : Pl := fun i => if i = id then none else if i = s.σ.length then some (b, c) else ι i
  have hown := X.mem.own id b c hi
  have hσl : σ'.length = s.σ.length + 1 := by simp [σ']
  have hnew : σ'[s.σ.length]? = some (.row es xs') := by
    show (s.σ.set id _ ++ _)[s.σ.length]? = _
    rw [List.getElem?_append_right (by simp)]
    simp
  have hold : σ'[id]? = some (.row 0 (List.replicate (xs.length + 1) .undef)) := by
    show (s.σ.set id _ ++ _)[id]? = _
    rw [List.getElem?_append_left (by simpa using hid), List.getElem?_set_self hid]
  have hother : ∀ j, j < s.σ.length → j ≠ id → σ'[j]? = s.σ[j]? := fun j hj hne => by
    show (s.σ.set id _ ++ _)[j]? = _
    rw [List.getElem?_append_left (by simpa using hj), List.getElem?_set_ne (Ne.symm hne)]
  have hrn : rowLen σ' s.σ.length = some xs'.length := by unfold rowLen; rw [hnew]; rfl
  have hro : rowLen σ' id = some (xs.length + 1) := by unfold rowLen; rw [hold]; simp [AO.len?]
  have hrj : ∀ j, j < s.σ.length → j ≠ id → rowLen σ' j = rowLen s.σ j := fun j hj hne => by unfold rowLen; rw [hother j hj hne]
  have i0 : ι' id = none := by simp [ι']
  have i1 : ι' s.σ.length = some (b, c) := by simp [ι']; omega
  have ij : ∀ j, j < s.σ.length → j ≠ id → ι' j = ι j := fun j hj hne => by
    have : j ≠ s.σ.length := by omega
    simp [ι', hne, this]
  have hcase : ∀ j b' c', ι' j = some (b', c') → (j = s.σ.length ∧ b' = b ∧ c' = c) ∨ (j ≠ id ∧ j < s.σ.length ∧ ι j = some (b', c')) := fun j b' c' h => by
    by_cases h1 : j = id
    · subst h1; rw [i0] at h; cases h
    · by_cases h2 : j = s.σ.length
      · subst h2; rw [i1] at h; cases h; exact .inl ⟨rfl, rfl, rfl⟩
      · have : ι' j = ι j := by simp [ι', h1, h2]
        rw [this] at h
        exact .inr ⟨h1, (X.mem.own j b' c' h).1, h⟩
  have hnb : ∀ b', vis b' → b' ≠ b := fun b' h e => hown.2.2.1 (e ▸ h)
  have hle := hp_step st (vis := vis) fun b' hb' => ⟨X.mem.visLt b' hb', fun e => by cases e; exact hown.2.2.1 hb'⟩
  have g : Goes ι s.σ ι' σ' := by
    refine ⟨by omega, fun j hj hl => ?_, fun j n hj hl => ?_⟩
    · have hne : j ≠ id := fun e => by subst e; rw [rowLen_some ho] at hl; cases hl
      exact ⟨by rw [hrj j hj hne]; exact hl, ij j hj hne⟩
    · by_cases hne : j = id
      · subst hne
        rw [rowLen_some ho] at hl
        cases hl
        exact ⟨_, hro, by omega, fun e => by omega⟩
      · exact ⟨n, by rw [hrj j hj hne]; exact hl, Nat.le_refl _, fun _ => ij j hj hne⟩
  have M : Mem C (C.k0 + s.k) σ' w' ι' vis D := by
    refine ⟨X.mem.glob.mono hle, ?_, ?_, ?_, ?_, X.mem.visD, ?_, ?_⟩
    · intro i j b1 c1 c2 h1 h2
      rcases hcase i b1 c1 h1 with ⟨rfl, rfl, rfl⟩ | ⟨h3, h4, h5⟩ <;> rcases hcase j _ c2 h2 with ⟨rfl, e1, rfl⟩ | ⟨h6, h7, h8⟩
      · rfl
      · exact absurd (X.mem.inj _ _ _ _ _ h8 hi) h6
      · subst e1; exact absurd (X.mem.inj _ _ _ _ _ h5 hi) h3
      · exact X.mem.inj _ _ _ _ _ h5 h8
    · intro i b1 c1 h1
      rcases hcase i b1 c1 h1 with ⟨rfl, rfl, rfl⟩ | ⟨h3, h4, h5⟩
      · exact ⟨by omega, Nat.lt_of_lt_of_le hown.2.1 st.size, hown.2.2⟩
      · obtain ⟨_, q2, q3⟩ := X.mem.own i b1 c1 h5
        exact ⟨by omega, Nat.lt_of_lt_of_le q2 st.size, q3⟩
    · exact fun b' hb' => Nat.lt_of_lt_of_le (X.mem.visLt b' hb') st.size
    · exact fun b' hb' => Nat.lt_of_lt_of_le (X.mem.DLt b' hb') st.size
    · intro i o hio
      by_cases h1 : i = id
      · subst h1
        rw [hold] at hio
        cases hio
        rw [i0]
        exact ⟨0, _, rfl, fun h => absurd h (Nat.lt_irrefl 0)⟩
      · by_cases h2 : i = s.σ.length
        · subst h2
          rw [hnew] at hio
          cases hio
          rw [i1]
          exact ⟨_, hh, vs, rest, ty, rfl, r.mono g hle, hs, hl, hc, hm, hes⟩
        · have hlt : i < s.σ.length := by have := (List.getElem?_eq_some_iff.1 hio).1; omega
          rw [hother i hlt h1] at hio
          have hob := X.mem.objs i o hio
          rw [ij i hlt h1]
          cases hp : ι i with
          | none => rw [hp] at hob; exact hob
          | some bc =>
            obtain ⟨b1, c1⟩ := bc
            rw [hp] at hob
            obtain ⟨ob, q1, q2⟩ := hob
            refine ⟨ob, ?_, q2.mono g hle⟩
            rw [st.block b1 (X.mem.own i b1 c1 hp).2.1 (fun e => by cases e; exact h1 (X.mem.inj _ _ _ _ _ hp hi))]
            exact q1
    · exact C.keep _ D w w' X.mem.hist (fun b' hb' => st.block b' (X.mem.DLt b' hb') (fun e => by cases e; exact hown.2.2.2 hb')) st.size st.os st.tape st.output
  refine ⟨ι', X.go M g hle, Up.of g hle st.size (fun i b' c' h => ?_), ?_⟩
  · rcases hcase i b' c' h with ⟨rfl, rfl, rfl⟩ | ⟨_, _, h5⟩
    · exact .inl ⟨id, _, hi⟩
    · exact .inl ⟨i, _, h5⟩
  · show RepE C.yl ι' σ' (hp vis w') _ _
    unfold RepE
    exact ⟨by omega, by rw [hrn]; rfl, by rw [hrn]; simp, rfl, fun _ => .inl ⟨b, c, i1, rfl⟩⟩
theorem step_drew (w : World) : Step w w.drew none := ⟨Nat.le_refl _, rfl, rfl, rfl, fun _ _ _ => rfl⟩
theorem InvX.drew (X : InvX C s a w ι vis D) : InvX C s a w.drew ι vis D :=
  ⟨(X.mem.step (step_drew w)).1, X.sz, X.env, X.df⟩
theorem op_app (X : InvX C s a w ι vis D) {o : Oper} {c : Call} {t e : TypeId} {k by_ : Nat} {ag : Bool} {z : Value} {sl x : Operand} {sl' x' : Opd} (ho : o.op = .call c) (hb : c.callee = .builtin .append)
    (ha : c.args.toList = [sl, x]) (hts : c.argTypes.toList = [t, t]) (ht : C.P.underlying t = some (.slice e)) (hk : tyI C.P e = some (ag, k)) (hby : (C.P.info? e).map (·.bytes) = some by_) (hz : zV C.P e = some z)
    (hs : cOpd C.P sl = some sl') (hx : cOpd C.P x = some x') (hk0 : 0 < k) : ResOK C s o a w ι vis D ((AOp.app k by_ sl' x').ex s.env s.σ) := by
  obtain ⟨i, hi, hiz, his, hzs, o1⟩ := zV_spec hz hk
  have hib : i.bytes = by_ := by simpa [hi] using hby
  have h1 : c.args = #[sl, x] := by rw [← Array.toArray_toList (xs := c.args), ha]
  have h2 : c.argTypes = #[t, t] := by rw [← Array.toArray_toList (xs := c.argTypes), hts]
  have rs := ev_ok X hs
  have rx := ev_ok X hx
  have run : ∀ v w', (Builtin.append_ #[t, t] o.type #[a.eval sl, a.eval x]).run C.P w = .ok v w' → (execOp a.eval o).run C.P w = .ok (.value v) w' := fun v w' h => by
    obtain ⟨cs, hr⟩ := run_builtin (C := C) (a := a) (w := w) ho hb
    rw [hr, h1, h2]
    simp only [List.map_toArray, List.map_cons, List.map_nil, builtin, Sem.run_bind, h, Result.andThen_ok, Sem.run_pure]
  simp only [AOp.ex]
  split
  · trivial
  rename_i ys hys
  obtain ⟨ad, cx, vs, hv, r1, r2, r3, _⟩ := elts_ok X hys rx
  obtain ⟨ad', cx', vs', hv', r1', r2', r3', _⟩ := elts_ok X.drew hys rx
  have hlx : ∀ w, (Builtin.lenOf (a.eval x)).run C.P w = .ok ys.length w := fun w => by rw [hv]; simp [Builtin.lenOf]
  have hvl := r1.length
  have hfl := flat_length (fun v hv => (r2 v hv).1)
  have hfl' := flat_length (fun v hv => (r2' v hv).1)
  have hvl' := r1'.length
  split
  · -- onto nil
    rename_i h
    rw [h] at rs
    unfold RepE RepT at rs
    split
    · have hvs : vs = [] := List.eq_nil_of_length_eq_zero (by simpa using hvl.symm)
      subst hvs
      refine gives_pure X (run _ _ ?_) (by unfold RepE RepT; rfl)
      rw [rs]
      simp only [List.length_nil] at hlx r3
      simp [Builtin.append_, run_underlying ht, sizeOf, typeInfo, hi, hlx, his, r3]
    · intro hc
      rename_i hne
      have hpos : 0 < ys.length := Nat.pos_of_ne_zero fun h0 => hne (List.eq_nil_of_length_eq_zero h0)
      have hrun := run_app_grow (P := C.P) w t o.type e i z ht hi hiz none 0 0 ys.length [] (vs'.flatMap (·.cells.toList)) (a.eval x) (hlx w) (by simp [Builtin.firstCells]) (by rw [his]; exact r3') (by omega) (by simpa using hc.1) (by rw [hib]; simpa using hc.2)
      have hge := grownCap_ge w (0 + ys.length) 0 e
      have hle := grownCap_le_maxLen w (0 + ys.length) 0 e (by simpa using hc.1)
      generalize grownCap w (0 + ys.length) 0 e = gc at *
      have hobj : (([] : List Value).toArray ++ (vs'.flatMap (·.cells.toList)).toArray ++ Builtin.zeroCells z.cells (gc - (0 + ys.length)) : Array Value) = (vs'.flatMap (·.cells.toList) ++ (Builtin.zeroCells z.cells (gc - (0 + ys.length))).toList).toArray := by
        apply Array.toList_inj.1
        simp
      rw [hobj] at hrun
      have st : Step w (w.drew.alloc (.cells (vs'.flatMap (·.cells.toList) ++ (Builtin.zeroCells z.cells (gc - (0 + ys.length))).toList).toArray e)) none :=
        ⟨by simp, rfl, rfl, rfl, fun k hk _ => heap_old w.drew _ k hk⟩
      obtain ⟨ι', X', up, r''⟩ := new_row X st (b := w.heap.size) (es := k) (c := gc) (rest := (Builtin.zeroCells z.cells (gc - (0 + ys.length))).toList) (ty := e) (xs := ys) (vs := vs')
        (by simp) (heap_alloc_new w.drew _) r1' r2' (by
          simp only [Array.length_toList, size_zeroCells, hzs]
          rw [← Nat.add_mul]
          congr 1
          omega) (by omega) hle hk0
      refine ⟨_, _, ι', .inl (run _ _ (by rw [rs]; exact hrun)), X', up, ?_⟩
      simpa using r''
  · -- onto a row of the store
    rename_i id n h
    rw [h] at rs
    unfold RepE at rs
    obtain ⟨g1, g2, g3, g4, g5⟩ := rs
    split
    · rename_i es' xs ho'
      split
      · rename_i hm
        obtain ⟨rfl, rfl⟩ := hm
        intro hc
        have hlen : (xs ++ ys).length = xs.length + ys.length := List.length_append
        have grow : ∀ (base : Option Addr) (cap : Nat) (us : List Value), a.eval sl = .slice base xs.length cap → cap < xs.length + ys.length → ys ≠ [] → RepEs C.yl ι s.σ (hp vis w) xs us → (∀ v ∈ us, v.cells.size = es' ∧ ∀ u ∈ v.cells.toList, One u) →
            (Builtin.firstCells es' xs.length (.slice base xs.length cap)).run C.P w.drew = .ok (us.flatMap (·.cells.toList)).toArray w.drew →
            ResOK C s o a w ι vis D (.ok (.loc id (xs.length + ys.length)) (s.σ.set id (.row es' (xs ++ ys)))) := by
          intro base cap us e1 hcap hne ru hus hfo
          have hrun := run_app_grow (P := C.P) w t o.type e i z ht hi hiz base xs.length cap ys.length _ _ (a.eval x) (hlx w) (by rw [his]; exact hfo) (by rw [his]; exact r3') hcap hc.1 (by rw [hib]; exact hc.2)
          have hge := grownCap_ge w (xs.length + ys.length) cap e
          have hle := grownCap_le_maxLen w (xs.length + ys.length) cap e hc.1
          generalize grownCap w (xs.length + ys.length) cap e = gc at *
          have hobj : ((us.flatMap (·.cells.toList)).toArray ++ (vs'.flatMap (·.cells.toList)).toArray ++ Builtin.zeroCells z.cells (gc - (xs.length + ys.length)) : Array Value) =
              ((us ++ vs').flatMap (·.cells.toList) ++ (Builtin.zeroCells z.cells (gc - (xs.length + ys.length))).toList).toArray := by
            apply Array.toList_inj.1
            simp
          rw [hobj] at hrun
          have st : Step w (w.drew.alloc (.cells ((us ++ vs').flatMap (·.cells.toList) ++ (Builtin.zeroCells z.cells (gc - (xs.length + ys.length))).toList).toArray e)) none :=
            ⟨by simp, rfl, rfl, rfl, fun k hk _ => heap_old w.drew _ k hk⟩
          obtain ⟨ι', X', up, r''⟩ := grow_row X st ho' (b := w.heap.size) (c := gc) (rest := (Builtin.zeroCells z.cells (gc - (xs.length + ys.length))).toList) (ty := e) (ys := ys) (vs := us ++ vs') (fun _ h => by cases h)
            (.inr ⟨Nat.le_refl _, by simp, hne⟩) (heap_alloc_new w.drew _) (ru.append r1') (fun v hv => by
              rcases List.mem_append.1 hv with h | h
              · exact hus v h
              · exact r2' v h) (by
              simp only [Array.length_toList, size_zeroCells, hzs, hlen]
              rw [← Nat.add_mul]
              congr 1
              omega) (by omega) hle hk0 (fun c' h => absurd (X.mem.own id _ c' h).2.1 (by omega))
          refine ⟨_, _, ι', .inl (run _ _ (by rw [e1]; exact hrun)), X', up, ?_⟩
          rw [hlen] at r''
          exact r''
        rcases g5 (rowLen_some ho') with ⟨b, cp, hib', e1⟩ | ⟨hnone, h0, e1⟩
        · have hob := X.mem.objs id _ ho'
          rw [hib'] at hob
          obtain ⟨ob, hh, us, rest, ty, rfl, q1, q2, q3, q4, q5, q6⟩ := hob
          have hul := q1.length
          have huf := flat_length (fun v hv => (q2 v hv).1)
          by_cases hroom : xs.length + ys.length ≤ cp
          · -- there is room
            have hmul : (xs.length + ys.length) * es' ≤ cp * es' := Nat.mul_le_mul_right _ hroom
            rw [Nat.add_mul] at hmul
            have hrun := run_app_room (P := C.P) w t o.type e ty i ht hi b xs.length cp ys.length _ hh (vs.flatMap (·.cells.toList)) (a.eval x) (hlx w) (by rw [his]; exact r3) (fun u hu => by
              obtain ⟨v, hv, huv⟩ := List.mem_flatMap.1 hu
              exact (r2 v hv).2 u huv) hroom (by rw [his, hfl, List.size_toArray, List.length_append, huf, ← hul, ← hvl]; omega)
            have hsp : splice (us.flatMap (·.cells.toList) ++ rest) (xs.length * es') (vs.flatMap (·.cells.toList)) = (us ++ vs).flatMap (·.cells.toList) ++ rest.drop (ys.length * es') := by
              unfold splice
              have e2 : xs.length * es' = (us.flatMap (·.cells.toList)).length := by rw [huf, hul]
              rw [e2, List.take_left' rfl, List.drop_length_add_append, hfl, ← hvl, List.flatMap_append]
            rw [his, hsp] at hrun
            obtain ⟨ι', X', up, r''⟩ := grow_row X (step_setRow w b _) ho' (b := b) (c := cp) (rest := rest.drop (ys.length * es')) (ty := ty) (ys := ys) (vs := us ++ vs) (fun b' h => by cases h; exact ⟨cp, hib'⟩)
              (.inl ⟨cp, hib', fun _ => rfl⟩) (setRow_heap w b _ _ ty (0, 0) hh) (q1.append r1) (fun v hv => by
                rcases List.mem_append.1 hv with h | h
                · exact q2 v h
                · exact r2 v h) (by rw [hlen, List.length_drop, Nat.add_mul]; omega) (by omega) q5 hk0 (fun c' h => by rw [hib'] at h; cases h; rfl)
            refine ⟨_, _, ι', .inl (run _ _ (by rw [e1]; exact hrun)), X', up, ?_⟩
            rw [hlen] at r''
            exact r''
          · refine grow _ cp us e1 (by omega) (fun h => by subst h; simp at hroom; omega) q1 q2 ?_
            refine run_firstCells_some w.drew es' _ ⟨b, 0, none⟩ _ cp _ (by rw [huf, hul]) (fun j u hu => ?_)
            rw [addr_add, World.cell?_drew, cell_of_heap hh]
            simp only [List.getElem?_toArray, Nat.zero_add]
            rw [List.getElem?_append_left (List.getElem?_eq_some_iff.1 hu).1]
            exact hu
        · have hxs : xs = [] := List.eq_nil_of_length_eq_zero h0
          subst hxs
          by_cases hys : ys = []
          · subst hys
            have hvs : vs = [] := List.eq_nil_of_length_eq_zero (by simpa using hvl.symm)
            subst hvs
            have hset : s.σ.set id (.row es' ([] ++ [])) = s.σ := by
              simp only [List.append_nil]
              apply List.ext_getElem?
              intro j
              by_cases hj : id = j
              · subst hj; rw [List.getElem?_set_self g1, ho']
              · rw [List.getElem?_set_ne hj]
            refine ⟨a.eval sl, w, ι, .inl (run _ _ ?_), by rw [hset]; exact X, by rw [hset]; exact Up.refl _ _ _ _, ?_⟩
            · rw [e1]
              simp only [List.length_nil] at hlx r3
              simp [Builtin.append_, run_underlying ht, sizeOf, typeInfo, hi, hlx, his, r3]
            · rw [hset, e1]
              unfold RepE
              exact ⟨g1, g2, g3, rfl, fun _ => .inr ⟨hnone, rfl, rfl⟩⟩
          · refine grow none 0 [] e1 (by have := Nat.pos_of_ne_zero (fun h0 => hys (List.eq_nil_of_length_eq_zero h0)); simpa using this) hys (by unfold RepEs; rfl) (by simp) (by simp [Builtin.firstCells])
      · trivial
    · trivial
  · -- onto the first elements of a row of the store
    rename_i id n es'' lo ln h
    rw [h] at rs
    unfold RepE at rs
    obtain ⟨g1, g2, g3, g4, g5⟩ := rs
    split
    · rename_i es' xs ho'
      split
      · rename_i hm
        obtain ⟨hn, rfl, rfl, rfl⟩ := hm
        rintro ⟨hpos, hfit⟩
        obtain ⟨_, g⟩ := g5 (by rw [rowLen_some ho', hn])
        rcases g with ⟨b, cp, o, hib, e1, _, ho0⟩ | ⟨_, h0, _⟩
        · obtain rfl := ho0 rfl
          rw [Nat.sub_zero] at e1
          have hob := X.mem.objs id _ ho'
          rw [hib] at hob
          obtain ⟨ob, hh, us, rest, ty, rfl, q1, q2, q3, q4, q5, q6⟩ := hob
          have hul := q1.length
          have huf := flat_length (fun v hv => (q2 v hv).1)
          have hmul : (ln + ys.length) * es'' ≤ xs.length * es'' := Nat.mul_le_mul_right _ (by omega)
          rw [Nat.add_mul] at hmul
          have hrun := run_app_room (P := C.P) w t o.type e ty i ht hi b ln cp ys.length _ hh (vs.flatMap (·.cells.toList)) (a.eval x) (hlx w) (by rw [his]; exact r3) (fun u hu => by
            obtain ⟨v, hv, huv⟩ := List.mem_flatMap.1 hu
            exact (r2 v hv).2 u huv) (by omega) (by rw [his, hfl, List.size_toArray, List.length_append, huf, ← hul, ← hvl]; omega)
          have htl : ((us.take ln).flatMap (·.cells.toList)).length = ln * es'' := by
            rw [flat_length (fun v hv => (q2 v (List.mem_of_mem_take hv)).1), List.length_take]
            congr 1
            omega
          have hsp : splice (us.flatMap (·.cells.toList) ++ rest) (ln * es'') (vs.flatMap (·.cells.toList)) = (us.take ln ++ vs).flatMap (·.cells.toList) ++ (us.flatMap (·.cells.toList) ++ rest).drop (ln * es'' + ys.length * es'') := by
            unfold splice
            rw [List.flatMap_append, hfl, ← hvl]
            congr 2
            conv => lhs; rw [← List.take_append_drop ln us, List.flatMap_append, List.append_assoc, ← htl]
            rw [List.take_left' rfl]
          rw [his, hsp] at hrun
          obtain ⟨ι', X', up, r''⟩ := move_row X (step_setRow w b _) ho' hib (xs' := xs.take ln ++ ys) (vs := us.take ln ++ vs) (rest := (us.flatMap (·.cells.toList) ++ rest).drop (ln * es'' + ys.length * es'')) (ty := ty) (setRow_heap w b _ _ ty (0, 0) hh) ((q1.take ln).append r1) (fun v hv => by
              rcases List.mem_append.1 hv with h | h
              · exact q2 v (List.mem_of_mem_take h)
              · exact r2 v h) (by
              rw [List.length_append, List.length_take, List.length_drop, List.length_append, huf, ← hul, show min ln xs.length = ln by omega, Nat.add_mul]
              omega) (by rw [List.length_append, List.length_take]; omega) q5 hk0
          have hlen : (xs.take ln ++ ys).length = ln + ys.length := by rw [List.length_append, List.length_take]; omega
          rw [hlen] at r''
          rw [hn] at X' up r''
          exact ⟨_, _, ι', .inl (run _ _ (by rw [e1]; exact hrun)), X', up, r''⟩
        · omega
      · trivial
    · trivial
  · trivial
theorem op_mks (X : InvX C s a w ι vis D) {o : Oper} {t e : TypeId} {k by_ : Nat} {ag : Bool} {z : Value} {n c : Operand} {n' c' : Opd} (ho : o.op = .makeSlice t n c) (ht : C.P.underlying t = some (.slice e)) (hk : tyI C.P e = some (ag, k))
    (hby : (C.P.info? e).map (·.bytes) = some by_) (hz : zV C.P e = some z) (hn : cOpd C.P n = some n') (hc : cOpd C.P c = some c') (hk0 : 0 < k) : ResOK C s o a w ι vis D ((AOp.mks k by_ z n' c').ex s.env s.σ) := by
  obtain ⟨i, hi, hiz, his, hzs, o1⟩ := zV_spec hz hk
  have hib : i.bytes = by_ := by simpa [hi] using hby
  have rn := ev_ok X hn
  have rc := ev_ok X hc
  simp only [AOp.ex]
  split
  · rename_i m q h1 h2
    rw [h1] at rn
    rw [h2] at rc
    unfold RepE RepT at rn rc
    rintro ⟨g1, g2, g3, g4⟩
    have hrun := run_make (P := C.P) w t e i z ht hi hiz .i64 .i64 m q g1 g2 (by rw [hib, Int.mul_comm]; exact g4) (by omega)
    have hrun' : (execOp a.eval o).run C.P w = .ok (.value (.slice (some ⟨w.heap.size, 0, none⟩) m.toNat q.toNat)) (w.alloc (.cells (madeCells z.cells (q.toNat * i.size)) e)) := by
      unfold execOp
      simp only [ho]
      rw [rn, rc]
      simp [hrun]
    have hmq : m.toNat ≤ q.toNat := by omega
    have hcells : madeCells z.cells (q.toNat * i.size) = ((List.replicate m.toNat z).flatMap (·.cells.toList) ++ (List.replicate (q.toNat - m.toNat) z).flatMap (·.cells.toList)).toArray := by
      apply Array.toList_inj.1
      rw [his, madeCells_flat z k _ hzs, ← List.flatMap_append, List.replicate_append_replicate, show m.toNat + (q.toNat - m.toNat) = q.toNat from by omega]
    rw [hcells] at hrun'
    have hsz : ∀ n, ∀ v ∈ List.replicate n z, v.cells.size = k := fun n v hv => by rw [(List.mem_replicate.1 hv).2]; exact hzs
    have r0 : RepEs C.yl ι s.σ (hp vis w) (List.replicate m.toNat (zeroE z)) (List.replicate m.toNat z) := by
      rw [RepEs_iff]
      refine ⟨by simp, fun j x v hx hv => ?_⟩
      rw [List.getElem?_replicate] at hx hv
      split at hx
      · rename_i hj
        rw [if_pos hj] at hv
        cases hx
        cases hv
        exact zeroE_rep o1
      · cases hx
    obtain ⟨ι', X', up, r''⟩ := new_row X (Step.alloc w _) (b := w.heap.size) (es := k) (c := q.toNat) (rest := (List.replicate (q.toNat - m.toNat) z).flatMap (·.cells.toList)) (vs := List.replicate m.toNat z) (ty := e) (by simp) (heap_alloc_new w _) r0 (fun v hv => by rw [(List.mem_replicate.1 hv).2]; exact ⟨hzs, o1⟩)
      (by
        rw [flat_length (hsz _)]
        simp only [List.length_replicate]
        rw [← Nat.add_mul]
        congr 1
        omega) (by simpa using hmq) (by unfold maxLen; omega) hk0
    simp only [List.length_replicate] at r''
    exact ⟨_, _, ι', .inl hrun', X', up, r''⟩
  · trivial
theorem set_same {α : Type} {l : List α} {i : Nat} {x : α} (h : l[i]? = some x) : l.set i x = l := by
  obtain ⟨hlt, rfl⟩ := List.getElem?_eq_some_iff.1 h
  exact List.set_getElem_self hlt
theorem op_cpy (X : InvX C s a w ι vis D) {o : Oper} {c : Call} {t u e : TypeId} {ag : Bool} {k : Nat} {d x : Operand} {d' x' : Opd} (ho : o.op = .call c) (hb : c.callee = .builtin .copy) (ha : c.args.toList = [d, x]) (hts : c.argTypes.toList = [t, u])
    (ht : C.P.underlying t = some (.slice e)) (hk : tyI C.P e = some (ag, k)) (hd : cOpd C.P d = some d') (hx : cOpd C.P x = some x') (hk0 : 0 < k) : ResOK C s o a w ι vis D ((AOp.cpy k d' x').ex s.env s.σ) := by
  have rd := ev_ok X hd
  have rx := ev_ok X hx
  have h1 : c.args = #[d, x] := by rw [← Array.toArray_toList (xs := c.args), ha]
  have h2 : c.argTypes = #[t, u] := by rw [← Array.toArray_toList (xs := c.argTypes), hts]
  obtain ⟨_, hS⟩ := tyI_spec hk w
  obtain ⟨cs, hr⟩ := run_builtin (C := C) (a := a) (w := w) ho hb
  simp only [AOp.ex]
  split
  · trivial
  · rename_i ys hys
    obtain ⟨ad, cx, vs, hv, r1, r2, r3k, _⟩ := elts_okK X hys rx
    have r3 := r3k _ (Nat.le_refl _)
    rw [r1.length, List.take_length, ← r1.length] at r3
    split
    · rename_i id n h
      rw [h] at rd
      unfold RepE at rd
      obtain ⟨g1, g2, g3, g4, g5⟩ := rd
      split
      · rename_i es' xs hob
        split
        · rename_i hm
          obtain ⟨rfl, rfl⟩ := hm
          split
          · rename_i hlt
            have hvl := r1.length
            have hmin : Nat.min ys.length xs.length = xs.length := Nat.min_eq_right (by omega)
            have hk := r3k xs.length (by omega)
            rw [hv] at hk
            rcases g5 (rowLen_some hob) with ⟨b, cp, hib, e1⟩ | ⟨hnone, h0, e1⟩
            · have hobj := X.mem.objs id _ hob
              rw [hib] at hobj
              obtain ⟨ob, hh, us, rest, ty, rfl, q1, q2, q3, q4, q5, q6⟩ := hobj
              have hul := q1.length
              have hT : ∀ v ∈ vs.take xs.length, v.cells.size = es' ∧ ∀ u ∈ v.cells.toList, One u := fun v hv => r2 v (List.mem_of_mem_take hv)
              have hfl := flat_length (fun v hv => (hT v hv).1)
              have huf := flat_length (fun v hv => (q2 v hv).1)
              have htl : (vs.take xs.length).length = us.length := by rw [List.length_take]; omega
              have hfit : ((vs.take xs.length).flatMap (·.cells.toList)).length ≤ (us.flatMap (·.cells.toList) ++ rest).length := by
                rw [List.length_append, hfl, huf, htl]
                omega
              have hst := run_storeCells_at C.P b 0 ty ((vs.take xs.length).flatMap (·.cells.toList)) 0 _ w hh (by simpa using hfit) (fun u hu => by
                obtain ⟨v, hv, huv⟩ := List.mem_flatMap.1 hu
                exact (hT v hv).2 u huv)
              have hcells : (us.flatMap (·.cells.toList) ++ rest).drop ((vs.take xs.length).flatMap (·.cells.toList)).length = rest := by
                rw [List.drop_left' (by rw [hfl, huf, htl])]
              have hrun : (execOp a.eval o).run C.P w = .ok (.value (.int .i64 xs.length)) (w.setRow b ((vs.take xs.length).flatMap (·.cells.toList) ++ rest).toArray) := by
                rw [hr, h1, h2]
                simp only [Nat.zero_add, List.take_zero, List.nil_append] at hst
                rw [hcells] at hst
                simp [builtin, Builtin.copy_, run_underlying ht, e1, hv, Builtin.lenOf, hmin, hS, hk, hst, goInt, Sem.run_bind]
              obtain ⟨X', up⟩ := X.write (o' := .row es' (ys.take xs.length)) hob hib (by simp [AO.len?]; omega) hh (cs := ((vs.take xs.length).flatMap (·.cells.toList) ++ rest).toArray) (by
                have g : Goes ι s.σ ι (s.σ.set id (.row es' (ys.take xs.length))) := Goes.set hob (by simp [AO.len?]; omega)
                have hle' := hp_step (step_setRow w b ((vs.take xs.length).flatMap (·.cells.toList) ++ rest).toArray) (vis := vis) fun b' hb => ⟨X.mem.visLt b' hb, fun e => by cases e; exact (X.mem.own id b cp hib).2.2.1 hb⟩
                have hyl : (ys.take xs.length).length = xs.length := by rw [List.length_take]; omega
                refine ⟨vs.take xs.length, rest, ty, rfl, ?_, hT, ?_, ?_, q5, hk0⟩
                · exact RepEs.mono g hle' _ _ (r1.take _)
                · rw [hyl]; exact q3
                · rw [hyl]; exact q4)
              exact ⟨_, _, ι, .inl hrun, X', up, by unfold RepE RepT; rfl⟩
            · have hx0 : xs = [] := List.eq_nil_of_length_eq_zero h0
              subst hx0
              have hset : s.σ.set id (.row es' (ys.take ([] : List E).length)) = s.σ := by
                simp only [List.length_nil, List.take_zero]
                exact set_same hob
              rw [hset]
              refine gives_pure X (v := .int .i64 0) ?_ (by unfold RepE RepT; rfl)
              rw [hr, h1, h2]
              simp only [List.length_nil, List.take_zero, List.flatMap_nil] at hk hmin
              simp [builtin, Builtin.copy_, run_underlying ht, e1, hv, Builtin.lenOf, hS, hk, goInt, Sem.run_bind]
          · intro hle
            have hvl := r1.length
            have hfl := flat_length (fun v hv => (r2 v hv).1)
            have hmin : Nat.min ys.length xs.length = ys.length := Nat.min_eq_left hle
            rw [hv] at r3
            rcases g5 (rowLen_some hob) with ⟨b, cp, hib, e1⟩ | ⟨hnone, h0, e1⟩
            · have hobj := X.mem.objs id _ hob
              rw [hib] at hobj
              obtain ⟨ob, hh, us, rest, ty, rfl, q1, q2, q3, q4, q5, q6⟩ := hobj
              have hul := q1.length
              have huf := flat_length (fun v hv => (q2 v hv).1)
              have hfit : (vs.flatMap (·.cells.toList)).length ≤ (us.flatMap (·.cells.toList) ++ rest).length := by
                rw [List.length_append, hfl, huf, ← hvl, ← hul]
                have := Nat.mul_le_mul_right es' hle
                omega
              have hst := run_storeCells_at C.P b 0 ty (vs.flatMap (·.cells.toList)) 0 _ w hh (by simpa using hfit) (fun u hu => by
                obtain ⟨v, hv, huv⟩ := List.mem_flatMap.1 hu
                exact (r2 v hv).2 u huv)
              have hcells : (us.flatMap (·.cells.toList) ++ rest).drop (vs.flatMap (·.cells.toList)).length = (us.drop ys.length).flatMap (·.cells.toList) ++ rest := by
                have e2 : us = us.take ys.length ++ us.drop ys.length := (List.take_append_drop _ _).symm
                have e3 : (vs.flatMap (·.cells.toList)).length = ((us.take ys.length).flatMap (·.cells.toList)).length := by
                  rw [hfl, flat_length (fun v hv => (q2 v (List.mem_of_mem_take hv)).1), ← hvl, List.length_take]
                  congr 1
                  omega
                conv => lhs; rw [e2, List.flatMap_append, List.append_assoc]
                rw [e3, List.drop_left' rfl]
              have hrun : (execOp a.eval o).run C.P w = .ok (.value (.int .i64 ys.length)) (w.setRow b ((vs ++ us.drop ys.length).flatMap (·.cells.toList) ++ rest).toArray) := by
                rw [hr, h1, h2]
                simp only [Nat.zero_add, List.take_zero, List.nil_append] at hst
                rw [hcells] at hst
                have hx2 : (vs ++ us.drop ys.length).flatMap (·.cells.toList) ++ rest = vs.flatMap (·.cells.toList) ++ ((us.drop ys.length).flatMap (·.cells.toList) ++ rest) := by simp
                rw [hx2]
                simp [builtin, Builtin.copy_, run_underlying ht, e1, hv, Builtin.lenOf, hmin, hS, r3, hst, goInt, Sem.run_bind]
              obtain ⟨X', up⟩ := X.write (o' := .row es' (ys ++ xs.drop ys.length)) hob hib (by simp [AO.len?]; omega) hh (cs := ((vs ++ us.drop ys.length).flatMap (·.cells.toList) ++ rest).toArray) (by
                have g : Goes ι s.σ ι (s.σ.set id (.row es' (ys ++ xs.drop ys.length))) := Goes.set hob (by simp [AO.len?]; omega)
                have hle' := hp_step (step_setRow w b ((vs ++ us.drop ys.length).flatMap (·.cells.toList) ++ rest).toArray) (vis := vis) fun b' hb => ⟨X.mem.visLt b' hb, fun e => by cases e; exact (X.mem.own id b cp hib).2.2.1 hb⟩
                refine ⟨vs ++ us.drop ys.length, rest, ty, rfl, ?_, ?_, ?_, ?_, q5, hk0⟩
                · refine RepEs.mono g hle' _ _ (r1.append ?_)
                  obtain ⟨hl, hr⟩ := RepEs_iff.1 q1
                  refine RepEs_iff.2 ⟨by simp [hl], fun i y v hy hv => ?_⟩
                  rw [List.getElem?_drop] at hy hv
                  exact hr _ y v hy hv
                · intro v hv
                  rcases List.mem_append.1 hv with h | h
                  · exact r2 v h
                  · exact q2 v (List.mem_of_mem_drop h)
                · rw [List.length_append, List.length_drop]
                  have : ys.length + (xs.length - ys.length) = xs.length := by omega
                  rw [this]; exact q3
                · rw [List.length_append, List.length_drop]; omega)
              exact ⟨_, _, ι, .inl hrun, X', up, by unfold RepE RepT; rfl⟩
            · have hx0 : xs = [] := List.eq_nil_of_length_eq_zero h0
              subst hx0
              have hy0 : ys = [] := List.eq_nil_of_length_eq_zero (by simpa using hle)
              subst hy0
              have hset : s.σ.set id (.row es' ([] ++ ([] : List E).drop ([] : List E).length)) = s.σ := by
                simp only [List.length_nil, List.drop_zero, List.append_nil]
                exact set_same hob
              rw [hset]
              refine gives_pure X (v := .int .i64 0) ?_ (by unfold RepE RepT; rfl)
              have hv0 : vs = [] := List.eq_nil_of_length_eq_zero (by simpa using hvl.symm)
              subst hv0
              rw [hr, h1, h2]
              simp only [List.length_nil, List.flatMap_nil] at r3 hmin
              simp [builtin, Builtin.copy_, run_underlying ht, e1, hv, Builtin.lenOf, hS, r3, goInt, Sem.run_bind]
        · trivial
      · trivial
    · trivial
theorem op_clr (X : InvX C s a w ι vis D) {o : Oper} {c : Call} {t e : TypeId} {ag : Bool} {k : Nat} {z : Value} {x : Operand} {x' : Opd} (ho : o.op = .call c) (hb : c.callee = .builtin .clear) (ha : c.args.toList = [x]) (hts : c.argTypes.toList = [t])
    (ht : C.P.underlying t = some (.slice e)) (hk : tyI C.P e = some (ag, k)) (hz : zV C.P e = some z) (hx : cOpd C.P x = some x') (hk0 : 0 < k) : ResOK C s o a w ι vis D ((AOp.clr k z x').ex s.env s.σ) := by
  have rx := ev_ok X hx
  have h1 : c.args = #[x] := by rw [← Array.toArray_toList (xs := c.args), ha]
  have h2 : c.argTypes = #[t] := by rw [← Array.toArray_toList (xs := c.argTypes), hts]
  obtain ⟨i, hi, hiz, his, hzs, o1⟩ := zV_spec hz hk
  obtain ⟨cs, hr⟩ := run_builtin (C := C) (a := a) (w := w) ho hb
  simp only [AOp.ex]
  split
  · rename_i id n es'' lo len h
    rw [h] at rx
    unfold RepE at rx
    obtain ⟨g1, g2, g3, g4, g5⟩ := rx
    split
    · rename_i es' xs hob
      split
      · rename_i hm
        obtain ⟨rfl, he1, he2, hle⟩ := hm
        subst he1
        have he3 := he2.symm
        subst he3
        obtain ⟨_, g6⟩ := g5 (rowLen_some hob)
        have hsame : len = 0 → s.σ.set id (.row es' (xs.take lo ++ List.replicate len (zeroE z) ++ xs.drop (lo + len))) = s.σ := fun h0 => by
          subst h0
          simp only [List.replicate_zero, List.append_nil, Nat.add_zero, List.take_append_drop]
          exact set_same hob
        rcases g6 with ⟨b, cp, o', hib, e1, e2, _⟩ | ⟨hnone, h0, e1⟩
        · by_cases hl0 : len = 0
          · rw [hsame hl0]
            refine gives_pure X (v := .tuple #[]) ?_ (by unfold RepE; exact ⟨[], rfl, by unfold RepEs; rfl⟩)
            rw [hr, h1, h2]
            subst hl0
            simp [builtin, Builtin.clear_, run_underlying ht, e1]
          · have e2 : o' = lo * es' := e2.resolve_right hl0
            have hobj := X.mem.objs id _ hob
            rw [hib] at hobj
            obtain ⟨ob, hh, us, rest, ty, rfl, q1, q2, q3, q4, q5, q6⟩ := hobj
            have hul := q1.length
            have huf := flat_length (fun v hv => (q2 v hv).1)
            have hzr : ∀ v ∈ List.replicate len z, v.cells.size = es' ∧ ∀ u ∈ v.cells.toList, One u := fun v hv => by rw [(List.mem_replicate.1 hv).2]; exact ⟨hzs, o1⟩
            have hzf := flat_length (fun v hv => (hzr v hv).1)
            rw [List.length_replicate] at hzf
            have htk : ∀ m, m ≤ us.length → ((us.take m).flatMap (·.cells.toList)).length = m * es' := fun m hm => by
              rw [flat_length (fun v hv => (q2 v (List.mem_of_mem_take hv)).1), List.length_take, Nat.min_eq_left hm]
            have hcut : ∀ m, us.flatMap (·.cells.toList) ++ rest = (us.take m).flatMap (·.cells.toList) ++ ((us.drop m).flatMap (·.cells.toList) ++ rest) := fun m => by
              rw [← List.append_assoc, ← List.flatMap_append, List.take_append_drop]
            have hfit : lo * es' + len * es' ≤ (us.flatMap (·.cells.toList) ++ rest).length := by
              rw [List.length_append, huf, ← hul, ← Nat.add_mul]
              have := Nat.mul_le_mul_right es' hle
              omega
            have hst := run_storeCells_at C.P b (lo * es') ty ((List.replicate len z).flatMap (·.cells.toList)) 0 _ w hh (by rw [hzf]; simpa using hfit) (fun u hu => by
              obtain ⟨v, hv, huv⟩ := List.mem_flatMap.1 hu
              exact (hzr v hv).2 u huv)
            have ht1 : (us.flatMap (·.cells.toList) ++ rest).take (lo * es') = (us.take lo).flatMap (·.cells.toList) := by
              rw [hcut lo, List.take_left' (htk lo (by omega))]
            have ht2 : (us.flatMap (·.cells.toList) ++ rest).drop (lo * es' + len * es') = (us.drop (lo + len)).flatMap (·.cells.toList) ++ rest := by
              rw [hcut (lo + len), ← Nat.add_mul, List.drop_left' (htk (lo + len) (by omega))]
            have hzc : (Builtin.zeroCells z.cells len).toList = (List.replicate len z).flatMap (·.cells.toList) := by
              rw [← madeCells_flat z es' len hzs]
              unfold Builtin.zeroCells madeCells
              rw [hzs]
            simp only [Nat.add_zero, hzf, ht1, ht2] at hst
            have hrow : (us.take lo).flatMap (·.cells.toList) ++ (List.replicate len z).flatMap (·.cells.toList) ++ ((us.drop (lo + len)).flatMap (·.cells.toList) ++ rest) = (us.take lo ++ List.replicate len z ++ us.drop (lo + len)).flatMap (·.cells.toList) ++ rest := by simp
            rw [hrow] at hst
            have hrun : (execOp a.eval o).run C.P w = .ok (.value (.tuple #[])) (w.setRow b ((us.take lo ++ List.replicate len z ++ us.drop (lo + len)).flatMap (·.cells.toList) ++ rest).toArray) := by
              rw [hr, h1, h2]
              subst e2
              clear hrow ht1 ht2 hcut htk
              generalize (us.take lo ++ List.replicate len z ++ us.drop (lo + len)).flatMap (·.cells.toList) ++ rest = R at hst ⊢
              generalize (List.replicate len z).flatMap (·.cells.toList) = R2 at hst hzc
              obtain ⟨m, rfl⟩ : ∃ m, len = m + 1 := ⟨len - 1, by omega⟩
              simp [builtin, Builtin.clear_, run_underlying ht, e1, zeroValue, typeInfo, hi, hiz, hzc, hst, Sem.run_bind]
            have hlen : (us.take lo ++ List.replicate len z ++ us.drop (lo + len)).length = us.length := by simp; omega
            obtain ⟨X', up⟩ := X.write (o' := .row es' (xs.take lo ++ List.replicate len (zeroE z) ++ xs.drop (lo + len))) hob hib (by simp [AO.len?]; omega) hh (cs := ((us.take lo ++ List.replicate len z ++ us.drop (lo + len)).flatMap (·.cells.toList) ++ rest).toArray) (by
              have g : Goes ι s.σ ι (s.σ.set id (.row es' (xs.take lo ++ List.replicate len (zeroE z) ++ xs.drop (lo + len)))) := Goes.set hob (by simp [AO.len?]; omega)
              have hle' := hp_step (step_setRow w b ((us.take lo ++ List.replicate len z ++ us.drop (lo + len)).flatMap (·.cells.toList) ++ rest).toArray) (vis := vis) fun b' hb => ⟨X.mem.visLt b' hb, fun e => by cases e; exact (X.mem.own id b cp hib).2.2.1 hb⟩
              obtain ⟨hl, hrr⟩ := RepEs_iff.1 q1
              refine ⟨us.take lo ++ List.replicate len z ++ us.drop (lo + len), rest, ty, rfl, ?_, ?_, ?_, ?_, q5, hk0⟩
              · refine RepEs.mono g hle' _ _ (((RepEs_iff.2 ⟨by simp [hl], fun i y v hy hv => ?_⟩ : RepEs C.yl ι s.σ (hp vis w) (xs.take lo) (us.take lo)).append (RepEs_iff.2 ⟨by simp, fun i y v hy hv => ?_⟩)).append (RepEs_iff.2 ⟨by simp [hl], fun i y v hy hv => ?_⟩))
                · have hi2 : i < lo := by
                    have := (List.getElem?_eq_some_iff.1 hy).1
                    simp at this; omega
                  rw [List.getElem?_take_of_lt hi2] at hy hv
                  exact hrr _ y v hy hv
                · rw [List.getElem?_replicate] at hy hv
                  split at hy
                  · rename_i hj
                    rw [if_pos hj] at hv
                    cases hy
                    cases hv
                    exact zeroE_rep o1
                  · cases hy
                · rw [List.getElem?_drop] at hy hv
                  exact hrr _ y v hy hv
              · intro v hv
                rcases List.mem_append.1 hv with h | h
                · rcases List.mem_append.1 h with h | h
                  · exact q2 v (List.mem_of_mem_take h)
                  · exact hzr v h
                · exact q2 v (List.mem_of_mem_drop h)
              · have e : (xs.take lo ++ List.replicate len (zeroE z) ++ xs.drop (lo + len)).length = xs.length := by simp; omega
                rw [e]; exact q3
              · have e : (xs.take lo ++ List.replicate len (zeroE z) ++ xs.drop (lo + len)).length = xs.length := by simp; omega
                rw [e]; exact q4)
            exact ⟨_, _, ι, .inl hrun, X', up, by unfold RepE; exact ⟨[], rfl, by unfold RepEs; rfl⟩⟩
        · have hx0 : xs = [] := List.eq_nil_of_length_eq_zero h0
          have hl0 : len = 0 := by subst hx0; simp at hle; omega
          rw [hsame hl0]
          refine gives_pure X (v := .tuple #[]) ?_ (by unfold RepE; exact ⟨[], rfl, by unfold RepEs; rfl⟩)
          rw [hr, h1, h2]
          simp [builtin, Builtin.clear_, run_underlying ht, e1]
      · trivial
    · trivial
  · trivial
theorem cOpt_spec {x : Option Operand} {y : Option Opd} (X : InvX C s a w ι vis D) (h : cOpt C.P x = some y) {d : Nat} {n : Int} (hb : bnd y s.env d = some n) : (x = none ∧ n = d) ∨ ∃ z, x = some z ∧ a.eval z = .int .i64 n := by
  cases x with
  | none =>
    simp only [cOpt] at h; cases h
    simp only [bnd] at hb; cases hb
    exact .inl ⟨rfl, rfl⟩
  | some z =>
    simp only [cOpt] at h
    obtain ⟨z', hz, rfl⟩ := Option.map_eq_some_iff.1 h
    simp only [bnd] at hb
    split at hb
    · rename_i m hm
      cases hb
      have r := ev_ok X hz
      rw [hm] at r
      unfold RepE RepT at r
      exact .inr ⟨z, rfl, r⟩
    · cases hb
theorem run_bounds {isS : Bool} {len cap : Nat} {lo hi : Option Operand} {lo' hi' : Option Opd} {l h : Int} (X : InvX C s a w ι vis D) (hlo : cOpt C.P lo = some lo') (hhi : cOpt C.P hi = some hi') (h1 : bnd lo' s.env 0 = some l) (h2 : bnd hi' s.env len = some h)
    (hl : 0 ≤ l ∧ l ≤ h ∧ h ≤ len) (hc : len ≤ cap) : (Instr.sliceBounds isS len cap (lo.map a.eval) (hi.map a.eval) none).run C.P w = .ok (l.toNat, h.toNat, cap) w := by
  have g1 : l ≤ (h.toNat : Int) := by omega
  have g2 : h ≤ (cap : Int) := by omega
  have g3 : 0 ≤ h := by omega
  unfold Instr.sliceBounds
  rcases cOpt_spec X hhi h2 with ⟨rfl, rfl⟩ | ⟨z, rfl, e⟩
  · rcases cOpt_spec X hlo h1 with ⟨rfl, rfl⟩ | ⟨z', rfl, e'⟩
    · simp [Sem.run_bind]
    · simp at g1
      simp [Instr.sliceBound, e', asIntOf, hl.1, g1]
  · rcases cOpt_spec X hlo h1 with ⟨rfl, rfl⟩ | ⟨z', rfl, e'⟩
    · simp [Instr.sliceBound, e, asIntOf, g3, g2]
    · have g4 : ¬ max h 0 < l := by omega
      simp [Instr.sliceBound, e, e', asIntOf, g3, g2, hl.1, g4]
theorem RepRow_drop {h : Hp} {es : Nat} : ∀ {xs : List T} {b o : Nat} (k : Nat), RepRow h es xs b o → RepRow h es (xs.drop k) b (o + k * es)
  | _, _, _, 0, r => by simpa using r
  | [], _, _, k + 1, _ => by simp only [List.drop_nil]; unfold RepRow; trivial
  | x :: xs, b, o, k + 1, r => by
    unfold RepRow at r
    have := RepRow_drop k r.2
    rw [List.drop_succ_cons, Nat.add_mul, Nat.one_mul, Nat.add_comm (k * es), ← Nat.add_assoc]
    exact this
theorem RepRow_take {h : Hp} {es : Nat} : ∀ {xs : List T} {b o : Nat} (k : Nat), RepRow h es xs b o → RepRow h es (xs.take k) b o
  | _, _, _, 0, _ => by simp only [List.take_zero]; unfold RepRow; trivial
  | [], _, _, k + 1, r => by simpa using r
  | x :: xs, b, o, k + 1, r => by
    unfold RepRow at r
    rw [List.take_succ_cons]
    unfold RepRow
    exact ⟨r.1, RepRow_take k r.2⟩
theorem RepRow_cells {h : Hp} : ∀ {cs : List T} {us : List Value} {b o : Nat}, RepTs h cs us → (∀ u ∈ us, One u) → Lies h b o us → RepRow h 1 cs b o
  | [], _, _, _, _, _, _ => by unfold RepRow; trivial
  | c :: cs, us, b, o, r, o1, l => by
    unfold RepTs at r
    obtain ⟨u, us', rfl, r1, r2⟩ := r
    obtain ⟨arr, ty, fr, hb, hl⟩ := l
    have hu : One u := o1 u (by simp)
    have hc : u.cells = #[u] := by unfold One at hu; cases u <;> simp_all [Value.oneCell', Value.cells]
    unfold RepRow
    refine ⟨⟨u, r1, by rw [hc]; rfl, fun v hv => by rw [hc] at hv; simp at hv; subst hv; exact hu, arr, ty, fr, hb, fun j v hv => ?_⟩, RepRow_cells r2 (fun v hv => o1 v (List.mem_cons_of_mem _ hv)) ⟨arr, ty, fr, hb, fun j v hv => ?_⟩⟩
    · rw [hc] at hv
      cases j with
      | zero => simp at hv; subst hv; simpa using hl 0 u rfl
      | succ j => simp at hv
    · have := hl (j + 1) v (by simpa using hv)
      rw [Nat.add_assoc, Nat.add_comm 1 j]
      exact this
theorem op_slcS (X : InvX C s a w ι vis D) {o : Oper} {t e : TypeId} {ag : Bool} {k : Nat} {x : Operand} {lo hi : Option Operand} {x' : Opd} {lo' hi' : Option Opd} (ho : o.op = .slice t x lo hi none) (ht : C.P.underlying t = some (.slice e)) (hk : tyI C.P e = some (ag, k))
    (hx : cOpd C.P x = some x') (hlo : cOpt C.P lo = some lo') (hhi : cOpt C.P hi = some hi') : ResOK C s o a w ι vis D ((AOp.slc none k x' lo' hi').ex s.env s.σ) := by
  have rx := ev_ok X hx
  obtain ⟨_, hS⟩ := tyI_spec hk w
  simp only [AOp.ex]
  split
  · trivial
  · rename_i l hbl
    split
    · rename_i h _; exact absurd h (by simp)
    · rename_i es' xs _ hev
      split
      · rename_i h hbh
        split
        · rename_i he
          subst he
          intro hl
          rw [hev] at rx
          unfold RepE RepT at rx
          obtain ⟨ad, n, cp, ev, rfl, hc, hr⟩ := rx
          have hb := run_bounds (isS := true) X hlo hhi hbl hbh hl hc
          have hm : min (h.toNat - l.toNat) (xs.length - l.toNat) = h.toNat - l.toNat := by omega
          have hlt : l.toNat ≤ xs.length := by omega
          rcases hr with ⟨h0, h0', h0''⟩ | ⟨b, p, rfl, hrow⟩
          · have hrep : ∀ ad' : Option Addr, RepE C.yl ι s.σ (hp vis w) (.t (.slice es' ((xs.drop l.toNat).take (h.toNat - l.toNat)))) (.slice ad' (h.toNat - l.toNat) (cp - l.toNat)) := fun ad' => by
              unfold RepE RepT
              exact ⟨ad', _, _, rfl, by rw [List.length_take, List.length_drop, hm], by omega, .inl ⟨by omega, by omega, by rw [h0'']; simp⟩⟩
            cases ad with
            | none =>
              refine gives_pure X (v := .slice none (h.toNat - l.toNat) (cp - l.toNat)) ?_ (hrep none)
              unfold execOp
              simp only [ho]
              rw [ev]
              simp [Instr.sliceAt, Instr.slice, run_underlying ht, Sem.run_bind, hb, hS]
            | some a' =>
              have hcl : cp = l.toNat := by omega
              refine gives_pure X (v := .slice (some a') (h.toNat - l.toNat) (cp - l.toNat)) ?_ (hrep (some a'))
              unfold execOp
              simp only [ho]
              rw [ev]
              simp only [Instr.sliceAt, Instr.slice, run_underlying ht, Sem.run_bind, Result.andThen_ok, hb, hS, Sem.run_pure, Option.map_some, Option.map_none]
              simp [hcl]
          · refine gives_pure X (v := .slice (some (if cp = l.toNat then ⟨b, p, none⟩ else ⟨b, p + l.toNat * es', none⟩)) (h.toNat - l.toNat) (cp - l.toNat)) ?_ ?_
            · unfold execOp
              simp only [ho]
              rw [ev]
              simp only [Instr.sliceAt, Instr.slice, run_underlying ht, Sem.run_bind, Result.andThen_ok, hb, hS, Sem.run_pure, Option.map_some, Option.map_none, addr_add]
              split <;> rfl
            · unfold RepE RepT
              refine ⟨_, _, _, rfl, by rw [List.length_take, List.length_drop, hm], by omega, .inr ?_⟩
              split
              · rename_i h1
                refine ⟨b, p, rfl, ?_⟩
                have : h.toNat - l.toNat = 0 := by omega
                rw [this, List.take_zero]
                unfold RepRow; trivial
              · exact ⟨b, _, rfl, RepRow_take _ (RepRow_drop _ hrow)⟩
        · trivial
      · trivial
    · rename_i id m _ hev
      split
      · rename_i h hbh
        split
        · rename_i hrl
          intro hl
          rw [hev] at rx
          unfold RepE at rx
          obtain ⟨g1, g2, g3, g4, g5⟩ := rx
          rcases g5 hrl with ⟨b, cp, hib, ev⟩ | ⟨hnone, h0, ev⟩
          · have hcp : m ≤ cp := by
              obtain ⟨ob, hob⟩ : ∃ o, s.σ[id]? = some o := ⟨_, List.getElem?_eq_getElem g1⟩
              have hO := X.mem.objs id ob hob
              rw [hib] at hO
              unfold rowLen at hrl
              rw [hob] at hrl
              cases ob with
              | row es' xs =>
                simp [AO.len?] at hrl
                obtain ⟨_, _, _, _, _, _, _, _, _, q4, _⟩ := hO
                omega
              | _ => simp [AO.len?] at hrl
            have hb := run_bounds (isS := true) X hlo hhi hbl hbh hl hcp
            refine gives_pure X (v := .slice (some (if cp = l.toNat then ⟨b, 0, none⟩ else ⟨b, 0 + l.toNat * k, none⟩)) (h.toNat - l.toNat) (cp - l.toNat)) ?_ ?_
            · unfold execOp
              simp only [ho]
              rw [ev]
              simp only [Instr.sliceAt, Instr.slice, run_underlying ht, Sem.run_bind, Result.andThen_ok, hb, hS, Sem.run_pure, Option.map_some, Option.map_none, addr_add]
              split <;> rfl
            · unfold RepE
              refine ⟨g1, g2, g3, rfl, fun _ => ⟨by omega, .inl ⟨b, cp, if cp = l.toNat then 0 else l.toNat * k, hib, ?_, ?_, ?_⟩⟩⟩
              · split <;> simp
              · split
                · right; omega
                · left; rfl
              · intro h0; split
                · rfl
                · rw [h0, Nat.zero_mul]
          · subst h0
            have hb := run_bounds (isS := true) (len := 0) (cap := 0) X hlo hhi hbl hbh hl (Nat.le_refl _)
            have hl0 : l.toNat = 0 := by omega
            have hh0 : h.toNat = 0 := by omega
            refine gives_pure X (v := .slice none 0 0) ?_ ?_
            · unfold execOp
              simp only [ho]
              rw [ev]
              simp [Instr.sliceAt, Instr.slice, run_underlying ht, Sem.run_bind, hb, hS, hl0, hh0]
            · unfold RepE
              exact ⟨g1, g2, g3, rfl, fun _ => ⟨by omega, .inr ⟨hnone, rfl, rfl⟩⟩⟩
        · trivial
      · trivial
    · trivial
theorem op_slcA (X : InvX C s a w ι vis D) {o : Oper} {t e : TypeId} {sz : Nat} {ag : Bool} {k : Nat} {x : Operand} {lo hi : Option Operand} {x' : Opd} {lo' hi' : Option Opd} (ho : o.op = .slice t x lo hi none) (ht : C.P.underlying t = some (.array sz e))
    (hk : tyI C.P e = some (ag, k)) (hx : cOpd C.P x = some x') (hlo : cOpt C.P lo = some lo') (hhi : cOpt C.P hi = some hi') : ResOK C s o a w ι vis D ((AOp.slc (some sz) k x' lo' hi').ex s.env s.σ) := by
  have rx := ev_ok X hx
  obtain ⟨_, hS⟩ := tyI_spec hk w
  simp only [AOp.ex]
  split
  · trivial
  · rename_i l hbl
    split
    · rename_i n cs off heq hev
      cases heq
      split
      · rename_i h hbh
        split
        · rename_i he
          subst he
          rintro ⟨hl1, hl2, hl3, hl4⟩
          rw [hev] at rx
          unfold RepE RepT at rx
          obtain ⟨b, p, v, ev, rv, o1, hlies⟩ := rx
          unfold RepT at rv
          obtain ⟨us, rfl, rs, o2⟩ := rv
          have hb := run_bounds (isS := false) (len := sz) (cap := sz) X hlo hhi hbl hbh ⟨hl1, hl2, hl3⟩ (Nat.le_refl _)
          have hus : cs.length = us.length := (RepTs_iff.1 rs).1
          have hrow : RepRow (hp vis w) 1 cs b p := RepRow_cells rs o2 (by simpa [Value.cells] using hlies)
          have hm : min (h.toNat - l.toNat) (cs.length - (off + l.toNat)) = h.toNat - l.toNat := by omega
          refine gives_pure X (v := .slice (some (if sz = l.toNat then ⟨b, p + off, none⟩ else ⟨b, p + off + l.toNat * 1, none⟩)) (h.toNat - l.toNat) (sz - l.toNat)) ?_ ?_
          · unfold execOp
            simp only [ho]
            rw [ev]
            simp only [Instr.sliceAt, run_underlying ht, Instr.sureAddr, Sem.run_bind, Result.andThen_ok, hb, hS, Sem.run_pure, addr_add, Option.map_none]
            try (split <;> rfl)
          · unfold RepE RepT
            refine ⟨_, _, _, rfl, by rw [List.length_take, List.length_drop, hm], by omega, .inr ?_⟩
            split
            · refine ⟨b, p + off, rfl, ?_⟩
              have : h.toNat - l.toNat = 0 := by omega
              rw [this, List.take_zero]
              unfold RepRow; trivial
            · refine ⟨b, _, rfl, RepRow_take _ ?_⟩
              have := RepRow_drop (off + l.toNat) hrow
              simpa [Nat.add_assoc] using this
        · trivial
      · trivial
    · rename_i h _; exact absurd h (by simp)
    · rename_i h _; exact absurd h (by simp)
    · trivial
theorem op_sidx (X : InvX C s a w ι vis D) {o : Oper} {t : TypeId} {b : ByteArray} {i : Operand} {i' : Opd} (ho : o.op = .index t (.const (.string b)) i) (ht : C.P.underlying t = some .string) (hi : cOpd C.P i = some i') :
    ResOK C s o a w ι vis D ((AOp.sidx (b.data.toList.map (·.toNat)) i').ex s.env s.σ) := by
  have ri := ev_ok X hi
  simp only [AOp.ex]
  split
  · rename_i k n hev
    split
    · rename_i c hc
      intro h0
      rw [hev] at ri
      unfold RepE RepT at ri
      rw [List.getElem?_map] at hc
      obtain ⟨u, hu, rfl⟩ := Option.map_eq_some_iff.1 hc
      refine gives_pure X (v := .int .u8 u.toNat) ?_ (by unfold RepE RepT; rfl)
      have hu' : b[n.toNat]? = some u := by
        rw [Array.getElem?_toList] at hu
        obtain ⟨hlt, hu⟩ := Array.getElem?_eq_some_iff.1 hu
        have hlt' : n.toNat < b.size := hlt
        rw [getElem?_pos b n.toNat hlt']
        exact congrArg some hu
      unfold execOp
      simp only [ho]
      rw [ri]
      simp [Instr.index, Act.eval, asIntOf, run_underlying ht, Sem.run_bind, h0, hu']
    · trivial
  · trivial
theorem op_ok (X : InvX C s a w ι vis D) {o : Oper} {i : AOp} (hc : compOp C.P o = some i) : ResOK C s o a w ι vis D (i.ex s.env s.σ) := by
  unfold compOp at hc
  split at hc
  case h_1 x ho => obtain ⟨y, hy, rfl⟩ := Option.map_eq_some_iff.1 hc; exact op_mov X (.inl ho) hy
  case h_2 x ho => obtain ⟨y, hy, rfl⟩ := Option.map_eq_some_iff.1 hc; exact op_mov X (.inr ho) hy
  case h_3 c x y ho =>
    split at hc
    · rename_i h1 h2 h3; cases hc; exact op_pick X ho h1 h2 h3
    · cases hc
  case h_4 t ho => obtain ⟨z, hz, rfl⟩ := Option.map_eq_some_iff.1 hc; exact op_alloc X ho hz
  case h_5 t x ho =>
    split at hc
    · obtain ⟨y, hy, rfl⟩ := Option.map_eq_some_iff.1 hc; exact op_box0 X ho hy
    · obtain ⟨y, hy, rfl⟩ := Option.map_eq_some_iff.1 hc; exact op_box X ho hy
  case h_6 t ps ho =>
    split at hc
    · rename_i fs z h1 h2
      split at hc
      · rename_i places hpl
        obtain ⟨qs, hq, rfl⟩ := Option.map_eq_some_iff.1 hc
        refine op_build X ho h2 _ hq fun i v hi hv => ?_
        unfold Program.built
        simp only [hi, h1, hv, hpl]
      · cases hc
    · rename_i n e z h1 h2
      split at hc
      · rename_i j hj
        obtain ⟨qs, hq, rfl⟩ := Option.map_eq_some_iff.1 hc
        refine op_build X ho h2 _ hq fun i v hi hv => ?_
        unfold Program.built
        simp only [hi, h1, hv, hj]
      · cases hc
    · cases hc
  case h_7 t n ps ho =>
    split at hc
    · rename_i e h1
      split at hc
      · rename_i ag k z qs h2 h3 h4
        split at hc
        · rename_i h; cases hc; exact op_bslice X ho h1 h2 h3 h4 h.1 h.2
        · cases hc
      · cases hc
    · cases hc
  case h_8 t x ho =>
    split at hc
    · rename_i h1 h2
      split at hc
      · rename_i hk; obtain ⟨rfl, rfl⟩ := hk; cases hc; exact op_load0 X ho h1 h2
      · cases hc; exact op_load X ho h1 h2
    · cases hc
  case h_9 t p x ho =>
    split at hc
    · rename_i h1 h2 h3; cases hc; exact op_store X ho h1 h2 h3
    · cases hc
  case h_10 x ho => obtain ⟨y, hy, rfl⟩ := Option.map_eq_some_iff.1 hc; exact op_nilck X ho hy
  case h_11 op t x y u ho =>
    split at hc
    · rename_i x' h1 h2
      split at hc
      · rename_i hb
        have hb' : ∃ ms, C.P.underlying t = some (.interface ms) := by
          unfold isIfT at hb
          split at hb
          · exact ⟨_, by assumption⟩
          · cases hb
        have hy : y = .const .nilIface := by
          cases y <;> simp only [cOpd] at h2 <;> first | (rw [Opd.ofC_lit (Option.some.inj h2)]; done) | (cases h2; done) | (obtain ⟨_, _, h3⟩ := Option.map_eq_some_iff.1 h2; cases h3)
        subst hy
        split at hc
        · cases hc; exact op_nilcmp X ho hb' rfl h1
        · cases hc; exact op_nilcmp X ho hb' rfl h1
        · cases hc
      · cases hc
    · rename_i hnn h1 h2
      split at hc
      · rename_i hb
        have hb' : C.P.underlying t = some .bool := by
          unfold isBoolT at hb
          split at hb
          · assumption
          · cases hb
        split at hc
        · cases hc; exact op_eqb X ho hb' rfl h1 h2
        · cases hc; exact op_eqb X ho hb' rfl h1 h2
        · cases hc
      · split at hc
        · rename_i hwg
          simp only [Bool.and_eq_true, Bool.not_eq_true'] at hwg
          split at hc
          · rename_i ks hk; cases hc; exact op_eqs X ho hwg.1 hwg.2 hk rfl h1 h2
          · rename_i ks hk; cases hc; exact op_eqs X ho hwg.1 hwg.2 hk rfl h1 h2
          · cases hc
        · cases hc; exact op_bin X ho h1 h2
    · cases hc
  case h_12 op t x ho => obtain ⟨y, hy, rfl⟩ := Option.map_eq_some_iff.1 hc; exact op_un X ho hy
  case h_13 t u x ho =>
    split at hc
    · rename_i h1 h2
      obtain ⟨y, hy, rfl⟩ := Option.map_eq_some_iff.1 hc
      exact op_conv X ho h1 h2 hy
    · cases hc
  case h_14 t x f ho =>
    split at hc
    · rename_i h1 h2
      split at hc
      · rename_i hk
        split at hc
        · rename_i h0; obtain ⟨rfl, hb, hs⟩ := h0; subst hk; cases hc; exact op_faddr0 X ho h1 hb hs h2
        · cases hc
      · rename_i hk; cases hc; exact op_faddr X ho h1 hk h2
    · cases hc
  case h_15 t x f ho =>
    split at hc
    · rename_i h1 h2; cases hc; exact op_field X ho h1 h2
    · cases hc
  case h_16 t x j ho =>
    split at hc
    · rename_i e h1 h2 h3
      split at hc
      · rename_i h4; cases hc; exact op_iaddr X ho h1 h4 h2 h3
      · cases hc
    · rename_i n e h1 h2 h3
      split at hc
      · rename_i h4; cases hc; exact op_iaddrA X ho h1 h4 h2 h3
      · cases hc
    · cases hc
  case h_17 t x ho =>
    split at hc
    · cases hc
    · rename_i hne h1 h2
      cases hc
      exact op_mkif X ho h1 hne h2
    · cases hc
  case h_18 f fs cs ho =>
    split at hc
    · rename_i h1 h2; cases hc; exact op_mkfn X ho h1 h2
    · cases hc
  case h_19 t n c ho =>
    split at hc
    · rename_i e h1 h2 h3
      split at hc
      · rename_i h4 h5 h6
        split at hc
        · rename_i hk; cases hc; exact op_mks X ho h1 h4 h5 h6 h2 h3 hk
        · cases hc
      · cases hc
    · cases hc
  case h_20 x j ho => obtain ⟨y, hy, rfl⟩ := Option.map_eq_some_iff.1 hc; exact op_ext X ho hy
  case h_21 x ho => obtain ⟨y, hy, rfl⟩ := Option.map_eq_some_iff.1 hc; exact op_pan X ho hy
  case h_22 c ho =>
    unfold compCall at hc
    split at hc
    · rename_i f hf
      split at hc
      · rename_i h1 h2; cases hc; exact op_call X ho hf h1 h2
      · cases hc
    · rename_i x name hf
      split at hc
      · rename_i h1 h2; cases hc; exact op_inv X ho hf h1 h2
      · cases hc
    · rename_i hb
      split at hc
      · rename_i x t ts h1 h2
        split at hc
        · rename_i e ht
          obtain ⟨y, hy, rfl⟩ := Option.map_eq_some_iff.1 hc
          exact op_len X ho hb h1 h2 ht hy
        · rename_i kt e ht
          obtain ⟨y, hy, rfl⟩ := Option.map_eq_some_iff.1 hc
          exact op_mlen X ho hb h1 h2 ht hy
        · cases hc
      · cases hc
    · rename_i hb
      split at hc
      · rename_i sl x t u h1 h2
        split at hc
        · rename_i e e' ht hu
          split at hc
          · rename_i h3 h4 h5 h6 h7
            split at hc
            · rename_i h
              obtain ⟨hk, rfl, rfl⟩ := h
              cases hc
              exact op_app X ho hb h1 h2 ht h3 h4 h5 h6 h7 hk
            · cases hc
          · cases hc
        · cases hc
      · cases hc
    · rename_i hb
      split at hc
      · rename_i m k t ts h1 h2
        split at hc
        · rename_i kt e ht
          split at hc
          · rename_i sh m' k' hsh hm hk; cases hc; exact op_mdel X ho hb h1 h2 ht hsh hm hk
          · cases hc
        · cases hc
      · cases hc
    · rename_i hb
      split at hc
      · rename_i d x t u h1 h2
        split at hc
        · rename_i e ht
          split at hc
          · rename_i ag k d' x' hk hd hx
            split at hc
            · rename_i hk0; cases hc; exact op_cpy X ho hb h1 h2 ht hk hd hx hk0
            · cases hc
          · cases hc
        · cases hc
      · cases hc
    · rename_i hb
      split at hc
      · rename_i x t h1 h2
        split at hc
        · rename_i e ht
          split at hc
          · rename_i ag k z x' hk hz hx
            split at hc
            · rename_i hk0; cases hc; exact op_clr X ho hb h1 h2 ht hk hz hx hk0
            · cases hc
          · cases hc
        · cases hc
      · cases hc
    · rename_i hb
      split at hc
      · rename_i h1; cases hc; exact op_mxmn (mx := true) X ho hb h1
      · cases hc
    · rename_i hb
      split at hc
      · rename_i h1; cases hc; exact op_mxmn (mx := false) X ho hb h1
      · cases hc
    · cases hc
  case h_23 x u t ok ho =>
    split at hc
    · cases hc
    · rename_i d x' hne h1 h2
      cases hc
      exact op_tass X ho h1 (fun ms e => hne ms e) h2
    · cases hc
  case h_24 t ho =>
    split at hc
    · rename_i kt e ht
      obtain ⟨sh, hsh, rfl⟩ := Option.map_eq_some_iff.1 hc
      exact op_mkmap X ho
    · cases hc
  case h_25 t m k ok ho =>
    split at hc
    · rename_i kt e ht
      split at hc
      · rename_i sh z m' k' hsh hz hm hk; cases hc; exact op_look X ho ht hsh hz hm hk
      · cases hc
    · cases hc
  case h_26 t m k v ho =>
    split at hc
    · rename_i kt e ht
      split at hc
      · rename_i sh m' k' v' hsh hm hk hv; cases hc; exact op_mput X (.inl ho) ht hsh hm hk hv
      · cases hc
    · cases hc
  case h_27 t m k v ho =>
    split at hc
    · rename_i kt e ht
      split at hc
      · rename_i sh m' k' v' hsh hm hk hv; cases hc; exact op_mput X (.inr ho) ht hsh hm hk hv
      · cases hc
    · cases hc
  case h_28 t m k ho =>
    split at hc
    · rename_i kt e ht
      split at hc
      · rename_i sh z m' k' hsh hz hm hk; cases hc; exact op_ment X ho ht hsh hz hm hk
      · cases hc
    · cases hc
  case h_29 t m st v ho =>
    split at hc
    · rename_i m' st' v' hm hst hv; cases hc; exact op_est X ho hm hst hv
    · cases hc
  case h_30 t m ho =>
    split at hc
    · rename_i kt e ht
      obtain ⟨m', hm, rfl⟩ := Option.map_eq_some_iff.1 hc
      exact op_rng X ho ht hm
    · cases hc
  case h_31 it ho => obtain ⟨y, hy, rfl⟩ := Option.map_eq_some_iff.1 hc; exact op_nxt X ho hy
  case h_32 it ho => obtain ⟨y, hy, rfl⟩ := Option.map_eq_some_iff.1 hc; exact op_ent X ho hy
  case h_33 c ho =>
    split at hc
    · rename_i f hf
      obtain ⟨as, ha, rfl⟩ := Option.map_eq_some_iff.1 hc
      exact op_defer X ho hf ha
    · rename_i f _ hf
      split at hc
      · rename_i f' xs h1 h2
        cases hc
        exact op_deferF X ho hf h1 h2
      · cases hc
    · cases hc
  case h_34 t x lo hi ho =>
    split at hc
    · rename_i e x' lo' hi' ht hx hlo hhi
      split at hc
      · rename_i ag k hk; cases hc; exact op_slcS X ho ht hk hx hlo hhi
      · cases hc
    · rename_i n e x' lo' hi' ht hx hlo hhi
      split at hc
      · rename_i ag k hk; cases hc; exact op_slcA X ho ht hk hx hlo hhi
      · cases hc
    · cases hc
  case h_35 t b i ho =>
    split at hc
    · rename_i i' ht hi; cases hc; exact op_sidx X ho ht hi
    · cases hc
  case h_36 t x i _ ho =>
    split at hc
    · rename_i n e x' i' ht hx hi
      split at hc
      · rename_i ag k hk; cases hc; exact op_aidx X ho ht hk hx hi
      · cases hc
    · cases hc
  case h_37 => cases hc
theorem opX_ok (X : InvX C s a w ι vis D) {ops : Array Oper} {o : Oper} {i : AOp} (hc : compOpX C.P ops o = some i) : ResOK C s o a w ι vis D (i.ex s.env s.σ) := by
  unfold compOpX at hc
  split at hc
  · rename_i x ho
    split at hc
    · obtain ⟨y, hy, rfl⟩ := Option.map_eq_some_iff.1 hc; exact op_nilckM X ho hy
    · exact op_ok X hc
  · exact op_ok X hc
end
end Go.Ab
namespace Go.Ab
def pos? (kp : List Nat) (id : Nat) : Option Nat := match kp with
  | [] => none
  | k :: ks => if k = id then some 0 else (pos? ks id).map (· + 1)
def E.gc (kp : List Nat) (σ : List AO) : Nat → E → E
  | 0, _ => .undef
  | n + 1, e => match e with
    | .t x => .t x
    | .undef => .undef
    | .ptr id off => match pos? kp id with
      | some j => .ptr j off
      | none => match σ[id]? with
        | some (.cells cs) => match allT (cs.map (E.gc kp σ n)) with
          | some ts => .t (.ptr (.agg ts) off)
          | none => .vp (cs.map (E.gc kp σ n)) off
        | _ => .undef
    | .elt id m es i off => match pos? kp id with
      | some j => .elt j m es i off
      | none => match σ[id]? with
        | some (.row es' xs) => if xs.length = m ∧ es' = es then (match (xs[i]?).map (E.gc kp σ n) with
          | some (.t x) => .t (.ptr x off)
          | _ => .undef) else .undef
        | _ => .undef
    | .loc id m => match pos? kp id with
      | some j => .loc j m
      | none => match σ[id]? with
        | some (.row es xs) => if xs.length = m then (match allT (xs.map (E.gc kp σ n)) with
          | some ts => .t (.slice es ts)
          | none => .undef) else .undef
        | _ => .undef
    | .map id => match pos? kp id with
      | some j => .map j
      | none => match σ[id]? with
        | some (.map sh ks xs clk) => .t (.map sh ks xs clk)
        | _ => .undef
    | .iter id => match pos? kp id with
      | some j => .iter j
      | none => .undef
    | .fn f fs cs => E.mkFn f (fs.map (E.gc kp σ n)) (cs.map (E.gc kp σ n))
    | .iface ty x => match E.gc kp σ n x with
      | .undef => .undef
      | y => E.mkIface ty y
    | .agg cs => E.mk (cs.map (E.gc kp σ n))
    | .tup cs => .tup (cs.map (E.gc kp σ n))
    | .yld => .yld
    | .vp cs off => match allT (cs.map (E.gc kp σ n)) with
      | some ts => .t (.ptr (.agg ts) off)
      | none => .vp (cs.map (E.gc kp σ n)) off
    | .sub id m es lo len => match pos? kp id with
      | some j => .sub j m es lo len
      | none => match σ[id]? with
        | some (.row es' xs) => if xs.length = m ∧ es' = es ∧ lo + len ≤ m then (match allT (((xs.drop lo).take len).map (E.gc kp σ n)) with
          | some ts => .t (.slice es ts)
          | none => .undef) else .undef
        | _ => .undef
def AO.gc (kp : List Nat) (σ : List AO) (n : Nat) : AO → AO
  | .cells cs => .cells (cs.map (E.gc kp σ n))
  | .row es xs => .row es (xs.map (E.gc kp σ n))
  | .map sh ks xs clk => .map sh ks xs clk
  | .iter m since seen last => .iter (E.gc kp σ n m) since seen last
  | .raw o => .raw o
def σgc (kp : List Nat) (σ : List AO) (n : Nat) : List AO := kp.map fun id => (σ.getD id (.raw (.pending #[] 0))).gc kp σ n
def gcOK (kp : List Nat) (σ : List AO) : Bool := kp.all (fun id => decide (id < σ.length)) && decide kp.Nodup
theorem pos?_spec : ∀ {kp : List Nat} {id j : Nat} (_ : pos? kp id = some j), kp[j]? = some id
  | [], _, _, h => by simp [pos?] at h
  | k :: ks, id, j, h => by
    simp only [pos?] at h
    split at h
    · rename_i e; cases h; simp [e]
    · obtain ⟨i, hi, rfl⟩ := Option.map_eq_some_iff.1 h
      simpa using pos?_spec hi
section
variable {yl : Nat} {ι : Pl} {σ : List AO} {vis D : Nat → Prop} {C : Cx} {k : Nat} {w : World} {kp : List Nat} {n : Nat}
def gcPl (kp : List Nat) (ι : Pl) : Pl := fun j => (kp[j]?).bind ι
def gcVis (kp : List Nat) (ι : Pl) (vis : Nat → Prop) : Nat → Prop := fun b => vis b ∨ ∃ i c, ι i = some (b, c) ∧ i ∉ kp
theorem rowLen_gc (n : Nat) {j id : Nat} (hj : kp[j]? = some id) : rowLen (σgc kp σ n) j = rowLen σ id := by
  unfold rowLen σgc
  rw [List.getElem?_map, hj]
  simp only [Option.map_some, Option.bind_some]
  cases h : σ[id]? with
  | none => simp [List.getD, h, AO.gc, AO.len?]
  | some o => cases o <;> simp [List.getD, h, AO.gc, AO.len?]
theorem gc_le (kp : List Nat) (ι : Pl) (vis : Nat → Prop) (w : World) : (hp vis w).le (hp (gcVis kp ι vis) w) := fun _ _ ⟨h1, h2⟩ => ⟨.inl h1, h2⟩
theorem row_of_flat {V : Nat → Prop} {w : World} {es b : Nat} {arr : Array Value} {ty : TypeId} {fr : Nat × Nat} (hb : hp V w b (.cells arr ty fr)) : ∀ (ts : List T) (us : List Value) (o : Nat), RepTs (hp V w) ts us → (∀ v ∈ us, v.cells.size = es ∧ ∀ u ∈ v.cells.toList, One u) →
    (∀ (j : Nat) u, (us.flatMap (·.cells.toList))[j]? = some u → arr[o + j]? = some u) → RepRow (hp V w) es ts b o := by
  intro ts
  induction ts with
  | nil => intro _ _ _ _ _; unfold RepRow; trivial
  | cons x ts iht =>
    intro us o hr hs hc
    unfold RepTs at hr
    obtain ⟨u, us', rfl, r1, r2⟩ := hr
    unfold RepRow
    have hu := hs u (by simp)
    have hul : u.cells.toList.length = es := by simpa using hu.1
    refine ⟨⟨u, r1, hu.1, hu.2, arr, ty, fr, hb, fun j y hy => ?_⟩, iht us' (o + es) r2 (fun v hv => hs v (by simp [hv])) (fun j y hy => ?_)⟩
    · exact hc j y (by
        simp only [List.flatMap_cons]
        rw [List.getElem?_append_left (List.getElem?_eq_some_iff.1 hy).1]
        exact hy)
    · have := hc (es + j) y (by
        simp only [List.flatMap_cons]
        rw [List.getElem?_append_right (by omega), hul, Nat.add_sub_cancel_left]
        exact hy)
      rw [Nat.add_assoc]; exact this
theorem gc_ok (M : Mem C k σ w ι vis D) (n0 : Nat) : ∀ (n : Nat) (e : E) (v : Value), RepE yl ι σ (hp vis w) e v → C.yl = yl → RepE yl (gcPl kp ι) (σgc kp σ n0) (hp (gcVis kp ι vis) w) (E.gc kp σ n e) v := by
  intro n
  induction n with
  | zero => intro e v _ _; simp only [E.gc]; unfold RepE; trivial
  | succ n ih =>
    intro e v r hyl
    have ihs : ∀ (es : List E) (vs : List Value), RepEs yl ι σ (hp vis w) es vs → RepEs yl (gcPl kp ι) (σgc kp σ n0) (hp (gcVis kp ι vis) w) (es.map (E.gc kp σ n)) vs := fun es vs r => by
      obtain ⟨hl, hr⟩ := RepEs_iff.1 r
      refine RepEs_iff.2 ⟨by simpa using hl, fun i x u hx hu => ?_⟩
      rw [List.getElem?_map] at hx
      obtain ⟨y, hy, rfl⟩ := Option.map_eq_some_iff.1 hx
      exact ih y u (hr i y u hy hu) hyl
    have kept : ∀ {id j : Nat}, pos? kp id = some j → j < (σgc kp σ n0).length ∧ rowLen (σgc kp σ n0) j = rowLen σ id ∧ gcPl kp ι j = ι id := fun {id j} h => by
      have hj := pos?_spec h
      refine ⟨?_, rowLen_gc n0 hj, by unfold gcPl; rw [hj]; rfl⟩
      unfold σgc
      rw [List.length_map]
      exact (List.getElem?_eq_some_iff.1 hj).1
    have struck : ∀ {id : Nat}, pos? kp id = none → id ∉ kp := by
      intro id
      induction kp with
      | nil => simp
      | cons k ks ihk =>
        intro h
        simp only [pos?] at h
        split at h
        · cases h
        · rename_i hne
          have := Option.map_eq_none_iff.1 h
          simp only [List.mem_cons, not_or]
          exact ⟨fun e => hne e.symm, by
            intro hm
            have hall : ∀ (l : List Nat), id ∈ l → pos? l id ≠ none := by
              intro l
              induction l with
              | nil => simp
              | cons a l ih =>
                intro hm h'
                simp only [pos?] at h'
                split at h'
                · cases h'
                · rename_i hne'
                  rcases List.mem_cons.1 hm with e | hm'
                  · exact hne' e.symm
                  · exact ih hm' (Option.map_eq_none_iff.1 h')
            exact hall ks hm this⟩
    simp only [E.gc]
    split
    · unfold RepE at r ⊢; exact r.mono (gc_le kp ι vis w)
    · unfold RepE; trivial
    · rename_i id off
      unfold RepE at r
      obtain ⟨h1, h2, b, c, h3, rfl⟩ := r
      split
      · rename_i j hj
        obtain ⟨k1, k2, k3⟩ := kept hj
        unfold RepE
        exact ⟨k1, by rw [k2]; exact h2, b, c, by rw [k3]; exact h3, rfl⟩
      · rename_i hj
        split
        · rename_i cs ho
          split
          · rename_i ts hts
            have hob := M.objs id _ ho
            rw [h3] at hob
            obtain ⟨ob, hh, us, ty, rfl, r, o1⟩ := hob
            have r' := (ihs cs us (hyl ▸ r)).of_T hts
            unfold RepE RepT
            refine ⟨b, 0, .agg us.toArray, by simp, by unfold RepT; exact ⟨us, rfl, r', o1⟩, by simpa [Value.cells] using o1, us.toArray, ty, (0, 0), ⟨.inr ⟨id, c, h3, struck hj⟩, hh⟩, fun i u hu => by simpa [Value.cells] using hu⟩
          · have hob := M.objs id _ ho
            rw [h3] at hob
            obtain ⟨ob, hh, us, ty, rfl, r, o1⟩ := hob
            unfold RepE
            exact ⟨b, us, rfl, ihs cs us (hyl ▸ r), o1, us.toArray, ty, (0, 0), ⟨.inr ⟨id, c, h3, struck hj⟩, hh⟩, fun i u hu => by simpa using hu⟩
        · unfold RepE; trivial
    · rename_i id m es i off
      unfold RepE at r
      obtain ⟨h1, h2, h3, h0, h4⟩ := r
      split
      · rename_i j hj
        obtain ⟨k1, k2, k3⟩ := kept hj
        unfold RepE
        exact ⟨k1, by rw [k2]; exact h2, by rw [k2]; exact h3, h0, by rw [k2, k3]; exact h4⟩
      · rename_i hj
        split
        · rename_i es' xs ho
          split
          · rename_i hm
            obtain ⟨hm, rfl⟩ := hm
            split
            · rename_i x hx
              obtain ⟨y, hy, hyx⟩ := Option.map_eq_some_iff.1 hx
              obtain ⟨b, c, h5, rfl⟩ := h4 (by rw [rowLen_some ho, hm])
              have hob := M.objs id _ ho
              rw [h5] at hob
              obtain ⟨ob, hh, us, rest, ty, rfl, r, hs, _⟩ := hob
              obtain ⟨u, hu, ru⟩ := r.get hy
              have r' := ih y u (hyl ▸ ru) hyl
              rw [hyx] at r'
              unfold RepE at r'
              unfold RepE RepT
              refine ⟨b, i * es', u, rfl, r', (hs u (List.mem_of_getElem? hu)).2, _, ty, (0, 0), ⟨.inr ⟨id, c, h5, struck hj⟩, hh⟩, fun j' y' hy' => ?_⟩
              simp only [List.getElem?_toArray]
              have hf := flat_get (fun v hv => (hs v hv).1) hu j' y' hy'
              rw [List.getElem?_append_left (List.getElem?_eq_some_iff.1 hf).1]
              exact hf
            · unfold RepE; trivial
          · unfold RepE; trivial
        · unfold RepE; trivial
    · rename_i id m
      unfold RepE at r
      obtain ⟨h1, h2, h3, h0, h4⟩ := r
      split
      · rename_i j hj
        obtain ⟨k1, k2, k3⟩ := kept hj
        unfold RepE
        exact ⟨k1, by rw [k2]; exact h2, by rw [k2]; exact h3, h0, by rw [k2, k3]; exact h4⟩
      · rename_i hj
        split
        · rename_i es xs ho
          split
          · rename_i hm
            split
            · rename_i ts hts
              have hob := M.objs id _ ho
              rcases h4 (by rw [rowLen_some ho, hm]) with ⟨b, c, h5, rfl⟩ | ⟨h5, hm0, rfl⟩
              · rw [h5] at hob
                obtain ⟨ob, hh, us, rest, ty, rfl, r, hs, h6, h7, _⟩ := hob
                have r' := (ihs xs us (hyl ▸ r)).of_T hts
                have hlt : ts.length = m := by rw [(RepTs_iff.1 r').1, ← hm, r.length]
                unfold RepE RepT
                refine ⟨_, m, c, rfl, hlt.symm, by omega, .inr ⟨b, 0, rfl, ?_⟩⟩
                have key : ∀ (ts : List T) (us : List Value) (o : Nat), RepTs (hp (gcVis kp ι vis) w) ts us → (∀ v ∈ us, v.cells.size = es ∧ ∀ u ∈ v.cells.toList, One u) →
                    (∀ (j : Nat) u, (us.flatMap (·.cells.toList))[j]? = some u → ∃ arr ty fr, hp (gcVis kp ι vis) w b (.cells arr ty fr) ∧ w.heap[b]? = some (.cells arr ty fr) ∧ arr[o + j]? = some u) →
                    (∃ arr ty fr, hp (gcVis kp ι vis) w b (.cells arr ty fr)) → RepRow (hp (gcVis kp ι vis) w) es ts b o := by
                  intro ts
                  induction ts with
                  | nil => intro _ _ _ _ _ _; unfold RepRow; trivial
                  | cons x ts iht =>
                    intro us o hr hs hc hb
                    unfold RepTs at hr
                    obtain ⟨u, us', rfl, r1, r2⟩ := hr
                    unfold RepRow
                    have hu := hs u (by simp)
                    obtain ⟨arr, ty, fr, hb1, hb2⟩ := hb
                    have hul : u.cells.toList.length = es := by simpa using hu.1
                    refine ⟨⟨u, r1, hu.1, hu.2, arr, ty, fr, ⟨hb1, hb2⟩, fun j y hy => ?_⟩, iht us' (o + es) r2 (fun v hv => hs v (by simp [hv])) (fun j y hy => ?_) ⟨arr, ty, fr, hb1, hb2⟩⟩
                    · obtain ⟨arr', ty', fr', _, h2, h3⟩ := hc j y (by
                        simp only [List.flatMap_cons]
                        rw [List.getElem?_append_left (List.getElem?_eq_some_iff.1 hy).1]
                        exact hy)
                      rw [hb2] at h2
                      cases h2
                      exact h3
                    · obtain ⟨arr', ty', fr', h1, h2, h3⟩ := hc (es + j) y (by
                        simp only [List.flatMap_cons]
                        rw [List.getElem?_append_right (by omega), hul, Nat.add_sub_cancel_left]
                        exact hy)
                      exact ⟨arr', ty', fr', h1, h2, by rw [Nat.add_assoc]; exact h3⟩
                exact key ts us 0 r' hs (fun j u hu => ⟨_, ty, (0, 0), ⟨.inr ⟨id, c, h5, struck hj⟩, hh⟩, hh, by
                  simp only [List.getElem?_toArray, Nat.zero_add]
                  rw [List.getElem?_append_left (List.getElem?_eq_some_iff.1 hu).1]
                  exact hu⟩) ⟨_, ty, (0, 0), .inr ⟨id, c, h5, struck hj⟩, hh⟩
              · subst hm0
                have hxs : xs = [] := List.eq_nil_of_length_eq_zero hm
                subst hxs
                simp only [List.map_nil, allT] at hts
                cases hts
                unfold RepE RepT
                exact ⟨none, 0, 0, rfl, rfl, Nat.le_refl _, .inl ⟨rfl, rfl, rfl⟩⟩
            · unfold RepE; trivial
          · unfold RepE; trivial
        · unfold RepE; trivial
    · rename_i id
      unfold RepE at r
      obtain ⟨h1, h2, b, c, h3, rfl⟩ := r
      split
      · rename_i j hj
        obtain ⟨k1, k2, k3⟩ := kept hj
        unfold RepE
        exact ⟨k1, by rw [k2]; exact h2, b, c, by rw [k3]; exact h3, rfl⟩
      · rename_i hj
        split
        · rename_i sh ks xs clk ho
          have hob := M.objs id _ ho
          rw [h3] at hob
          obtain ⟨ob, hh, ms, rfl, r⟩ := hob
          unfold RepE RepT
          exact ⟨b, ms, rfl, ⟨.inr ⟨id, c, h3, struck hj⟩, hh⟩, r.mono (gc_le kp ι vis w)⟩
        · unfold RepE; trivial
    · rename_i id
      unfold RepE at r
      obtain ⟨h1, h2, b, c, h3, rfl⟩ := r
      split
      · rename_i j hj
        obtain ⟨k1, k2, k3⟩ := kept hj
        unfold RepE
        exact ⟨k1, by rw [k2]; exact h2, b, c, by rw [k3]; exact h3, rfl⟩
      · unfold RepE; trivial
    · rename_i f fs cs
      unfold RepE at r
      obtain ⟨us, vs, rfl, r1, r2⟩ := r
      exact RepE.mkFn (ihs _ _ r1) (ihs _ _ r2)
    · rename_i t x
      unfold RepE at r
      obtain ⟨u, rfl, r1⟩ := r
      have r' := ih x u r1 hyl
      split
      · unfold RepE; trivial
      · exact r'.mkIface
    · rename_i cs
      unfold RepE at r
      obtain ⟨us, rfl, r1, o1⟩ := r
      exact RepE.mk (ihs _ _ r1) o1
    · rename_i cs
      unfold RepE at r
      obtain ⟨us, rfl, r1⟩ := r
      unfold RepE
      exact ⟨us, rfl, ihs _ _ r1⟩
    · unfold RepE at r ⊢; exact r
    · rename_i cs off
      unfold RepE at r
      obtain ⟨b, us, rfl, r1, o1, l⟩ := r
      have r' := ihs cs us r1
      have l' := l.mono (gc_le kp ι vis w)
      split
      · rename_i ts hts
        unfold RepE RepT
        obtain ⟨arr, ty, fr, q1, q2⟩ := l'
        exact ⟨b, 0, .agg us.toArray, by simp, by unfold RepT; exact ⟨us, rfl, r'.of_T hts, o1⟩, by simpa [Value.cells] using o1, arr, ty, fr, q1, fun i u hu => q2 i u (by simpa [Value.cells] using hu)⟩
      · unfold RepE
        exact ⟨b, us, rfl, r', o1, l'⟩
    · rename_i id m es lo len
      unfold RepE at r
      obtain ⟨h1, h2, h3, h0, h4⟩ := r
      split
      · rename_i j hj
        obtain ⟨k1, k2, k3⟩ := kept hj
        unfold RepE
        exact ⟨k1, by rw [k2]; exact h2, by rw [k2]; exact h3, h0, by rw [k2, k3]; exact h4⟩
      · rename_i hj
        split
        · rename_i es' xs ho
          split
          · rename_i hm
            obtain ⟨hm, hes, hle⟩ := hm
            subst hes
            split
            · rename_i ts hts
              have hob := M.objs id _ ho
              rcases (h4 (by rw [rowLen_some ho, hm])).2 with ⟨b, c, o', h5, rfl, h6, _⟩ | ⟨h5, hm0, rfl⟩
              · rw [h5] at hob
                obtain ⟨ob, hh, us, rest, ty, rfl, r, hs, q3, q4, _⟩ := hob
                have hrl := r.length
                have r1 : RepEs yl ι σ (hp vis w) ((xs.drop lo).take len) ((us.drop lo).take len) := by
                  obtain ⟨hl, hr⟩ := RepEs_iff.1 (hyl ▸ r)
                  refine RepEs_iff.2 ⟨by simp [hl], fun i x u hx hu => ?_⟩
                  have hi : i < len := by
                    have := (List.getElem?_eq_some_iff.1 hx).1
                    simp at this; omega
                  rw [List.getElem?_take_of_lt hi, List.getElem?_drop] at hx hu
                  exact hr _ x u hx hu
                have r' := (ihs _ _ r1).of_T hts
                have hs' : ∀ v ∈ (us.drop lo).take len, v.cells.size = es' ∧ ∀ u ∈ v.cells.toList, One u := fun v hv => hs v (List.mem_of_mem_drop (List.mem_of_mem_take hv))
                have hlt : ts.length = len := by rw [(RepTs_iff.1 r').1, List.length_take, List.length_drop, ← hrl]; omega
                unfold RepE RepT
                refine ⟨_, len, c - lo, rfl, hlt.symm, by omega, .inr ⟨b, o', rfl, ?_⟩⟩
                refine row_of_flat (arr := (us.flatMap (·.cells.toList) ++ rest).toArray) (ty := ty) (fr := (0, 0)) ⟨.inr ⟨id, c, h5, struck hj⟩, hh⟩ ts _ o' r' hs' (fun j u hu => ?_)
                rcases h6 with h6 | h6
                · subst h6
                  have e1 : us.flatMap (·.cells.toList) = (us.take lo).flatMap (·.cells.toList) ++ ((us.drop lo).take len).flatMap (·.cells.toList) ++ ((us.drop lo).drop len).flatMap (·.cells.toList) := by
                    rw [List.append_assoc, ← List.flatMap_append, List.take_append_drop, ← List.flatMap_append, List.take_append_drop]
                  have e2 : ((us.take lo).flatMap (·.cells.toList)).length = lo * es' := by
                    rw [flat_length (fun v hv => (hs v (List.mem_of_mem_take hv)).1), List.length_take, Nat.min_eq_left (by omega)]
                  simp only [List.getElem?_toArray]
                  rw [e1, List.append_assoc, List.append_assoc, List.getElem?_append_right (by omega), e2, Nat.add_sub_cancel_left, List.getElem?_append_left (List.getElem?_eq_some_iff.1 hu).1]
                  exact hu
                · subst h6
                  simp at hu
              · have h00 : len = 0 := by omega
                subst h00
                simp only [List.take_zero, List.map_nil, allT] at hts
                cases hts
                unfold RepE RepT
                exact ⟨none, 0, 0, rfl, rfl, Nat.le_refl _, .inl ⟨rfl, rfl, rfl⟩⟩
            · unfold RepE; trivial
          · unfold RepE; trivial
        · unfold RepE; trivial
theorem Mem.gc (M : Mem C k σ w ι vis D) (n : Nat) (hk : gcOK kp σ = true) : Mem C k (σgc kp σ n) w (gcPl kp ι) (gcVis kp ι vis) D := by
  unfold gcOK at hk
  simp only [Bool.and_eq_true, List.all_eq_true, decide_eq_true_eq] at hk
  obtain ⟨hall, hnd⟩ := hk
  have hpl : ∀ i b c, gcPl kp ι i = some (b, c) → ∃ id, kp[i]? = some id ∧ ι id = some (b, c) := fun i b c h => Option.bind_eq_some_iff.1 h
  refine ⟨M.glob.mono (gc_le kp ι vis w), fun i j b c c' hi hj => ?_, fun i b c hi => ?_, fun b hb => ?_, M.DLt, fun b hb => ?_, fun i o hi => ?_, M.hist⟩
  · obtain ⟨id, h1, h2⟩ := hpl i b c hi
    obtain ⟨id', h3, h4⟩ := hpl j b c' hj
    have := M.inj id id' b c c' h2 h4
    subst this
    exact (List.getElem?_inj (List.getElem?_eq_some_iff.1 h1).1 hnd).1 (h1.trans h3.symm)
  · obtain ⟨id, h1, h2⟩ := hpl i b c hi
    obtain ⟨g1, g2, g3, g4⟩ := M.own id b c h2
    refine ⟨by unfold σgc; rw [List.length_map]; exact (List.getElem?_eq_some_iff.1 h1).1, g2, ?_, g4⟩
    rintro (h | ⟨j, c', h5, h6⟩)
    · exact g3 h
    · have := M.inj id j b c c' h2 h5
      subst this
      exact h6 (List.mem_of_getElem? h1)
  · rcases hb with h | ⟨j, c', h5, _⟩
    · exact M.visLt b h
    · exact (M.own j b c' h5).2.1
  · rcases hb with h | ⟨j, c', h5, _⟩
    · exact M.visD b h
    · exact (M.own j b c' h5).2.2.2
  · unfold σgc at hi
    rw [List.getElem?_map] at hi
    obtain ⟨id, h1, rfl⟩ := Option.map_eq_some_iff.1 hi
    have hid := hall id (List.mem_of_getElem? h1)
    have hlt : id < σ.length := by simpa using hid
    have ho : σ[id]? = some σ[id] := List.getElem?_eq_getElem hlt
    have hob := M.objs id _ ho
    have hg : σ.getD id (.raw (.pending #[] 0)) = σ[id] := by simp [List.getD, ho]
    rw [hg]
    have hp1 : gcPl kp ι i = ι id := by unfold gcPl; rw [h1]; rfl
    rw [hp1]
    generalize hσ : σ[id] = o at *
    cases hp : ι id with
    | none =>
      rw [hp] at hob
      obtain ⟨es, xs, rfl, hes⟩ := hob
      exact ⟨es, _, rfl, fun h => by rw [hes h]; rfl⟩
    | some bc =>
      obtain ⟨b, c⟩ := bc
      rw [hp] at hob
      obtain ⟨ob, hh, hr⟩ := hob
      refine ⟨ob, hh, ?_⟩
      have rs : ∀ (es : List E) (vs : List Value), RepEs C.yl ι σ (Ab.hp vis w) es vs → RepEs C.yl (gcPl kp ι) (σgc kp σ n) (Ab.hp (gcVis kp ι vis) w) (es.map (E.gc kp σ n)) vs := fun es vs r => by
        obtain ⟨hl, hr⟩ := RepEs_iff.1 r
        refine RepEs_iff.2 ⟨by simpa using hl, fun i x u hx hu => ?_⟩
        rw [List.getElem?_map] at hx
        obtain ⟨y, hy, rfl⟩ := Option.map_eq_some_iff.1 hx
        exact gc_ok M n n y u (hr i y u hy hu) rfl
      cases o with
      | cells cs => obtain ⟨us, ty, e, r, o1⟩ := hr; exact ⟨us, ty, e, rs _ _ r, o1⟩
      | row es xs =>
        obtain ⟨vs, rest, ty, e, r, q1, q2, q3, q4⟩ := hr
        exact ⟨vs, rest, ty, e, rs _ _ r, q1, by simpa using q2, by simpa using q3, q4⟩
      | map sh ks xs clk => obtain ⟨ms, e, r⟩ := hr; exact ⟨ms, e, r.mono (gc_le kp ι vis w)⟩
      | iter m since seen last =>
        obtain ⟨mb, r, e⟩ := hr
        exact ⟨mb, gc_ok M n n m _ r rfl, e⟩
      | raw o => exact hr
end
end Go.Ab
namespace Go.Ab
def Df.gc (kp : List Nat) (σ : List AO) : Df → Df
  | .call f args => .call f (args.map fun e => E.gc kp σ 12 e)
  | .mark => .mark
def St.gc (kp lv : List Nat) (s : St) : St :=
  { s with env := lv.map fun i => (i, E.gc kp s.σ 12 (lk s.env i)), σ := σgc kp s.σ 12, df := s.df.map (Df.gc kp s.σ) }
def keepsBase (nb : Nat) (kp : List Nat) : Bool := kp.take nb == List.range nb
structure UpN (nb : Nat) (ι : Pl) (σ : List AO) (vis : Nat → Prop) (w : World) (ι' : Pl) (σ' : List AO) (vis' : Nat → Prop) (w' : World) : Prop where
  len : nb ≤ σ.length
  len' : nb ≤ σ'.length
  fix : ∀ id, id < nb → rowLen σ id = none → rowLen σ' id = none ∧ ι' id = ι id
  row : ∀ id n, id < nb → rowLen σ id = some n → ∃ m, rowLen σ' id = some m ∧ n ≤ m ∧ (m = n → ι' id = ι id)
  le : (hp vis w).le (hp vis' w')
  size : w.heap.size ≤ w'.heap.size
  own : ∀ i b c, ι' i = some (b, c) → (∃ j c', ι j = some (b, c')) ∨ w.heap.size ≤ b
  vis : ∀ b, vis' b → vis b ∨ w.heap.size ≤ b ∨ ∃ j c, ι j = some (b, c)
theorem UpN.refl {nb : Nat} {σ : List AO} (h : nb ≤ σ.length) (ι : Pl) (vis : Nat → Prop) (w : World) : UpN nb ι σ vis w ι σ vis w :=
  ⟨h, h, fun _ _ h => ⟨h, rfl⟩, fun _ n _ h => ⟨n, h, Nat.le_refl _, fun _ => rfl⟩, Hp.le_refl _, Nat.le_refl _, fun i _ c h => .inl ⟨i, c, h⟩, fun _ h => .inl h⟩
theorem UpN.of {nb : Nat} {ι ι' : Pl} {σ σ' : List AO} {vis vis' : Nat → Prop} {w w' : World} (h : nb ≤ σ.length) (u : Up ι σ vis w ι' σ' vis' w') : UpN nb ι σ vis w ι' σ' vis' w' :=
  ⟨h, Nat.le_trans h u.goes.len, fun id hi hl => u.goes.fix id (by omega) hl, fun id n hi hl => u.goes.row id n (by omega) hl, u.le, u.size, u.own, u.vis⟩
theorem UpN.up {ι ι' : Pl} {σ σ' : List AO} {vis vis' : Nat → Prop} {w w' : World} (u : UpN σ.length ι σ vis w ι' σ' vis' w') : Up ι σ vis w ι' σ' vis' w' :=
  ⟨⟨u.len', fun id hi hl => u.fix id hi hl, fun id n hi hl => u.row id n hi hl⟩, u.le, u.size, u.own, u.vis⟩
theorem UpN.trans {nb : Nat} {ι ι' ι'' : Pl} {σ σ' σ'' : List AO} {vis vis' vis'' : Nat → Prop} {w w' w'' : World} (a : UpN nb ι σ vis w ι' σ' vis' w') (b : UpN nb ι' σ' vis' w' ι'' σ'' vis'' w'') : UpN nb ι σ vis w ι'' σ'' vis'' w'' :=
  ⟨a.len, b.len', fun id hi h => by
    obtain ⟨h1, e1⟩ := a.fix id hi h
    obtain ⟨h2, e2⟩ := b.fix id hi h1
    exact ⟨h2, e2.trans e1⟩, fun id n hi h => by
    obtain ⟨m, h1, l1, e1⟩ := a.row id n hi h
    obtain ⟨k, h2, l2, e2⟩ := b.row id m hi h1
    exact ⟨k, h2, Nat.le_trans l1 l2, fun e => by
      have : m = n := by omega
      exact (e2 (by omega)).trans (e1 this)⟩, Hp.le_trans a.le b.le, Nat.le_trans a.size b.size, fun i x c h => by
    rcases b.own i x c h with ⟨j, c', h'⟩ | h'
    · exact a.own j x c' h'
    · exact .inr (Nat.le_trans a.size h'), fun x h => by
    rcases b.vis x h with h' | h' | ⟨j, c, h'⟩
    · exact a.vis x h'
    · exact .inr (.inl (Nat.le_trans a.size h'))
    · rcases a.own j x c h' with ⟨j', c', h''⟩ | h''
      · exact .inr (.inr ⟨j', c', h''⟩)
      · exact .inr (.inl h'')⟩
section
variable {C : Cx} {s : St} {a : Act} {w : World} {ι : Pl} {vis D : Nat → Prop} {nb : Nat}
theorem InvX.gc (X : InvX C s a w ι vis D) {kp : List Nat} (lv : List Nat) (hk : gcOK kp s.σ = true) : InvX C (s.gc kp lv) a w (gcPl kp ι) (gcVis kp ι vis) D := by
  refine ⟨X.mem.gc 12 hk, X.sz, fun i => ?_, ?_⟩
  · have key : ∀ (lv : List Nat), RepE C.yl (gcPl kp ι) (σgc kp s.σ 12) (hp (gcVis kp ι vis) w) (lk (lv.map fun i => (i, E.gc kp s.σ 12 (lk s.env i))) i) (a.tmps.getD i undef) := by
      intro lv
      induction lv with
      | nil => simp only [List.map_nil, lk]; unfold RepE; trivial
      | cons l lv ih =>
        simp only [List.map_cons, lk]
        split
        · rename_i e; subst e; exact gc_ok X.mem 12 12 _ _ (X.env i) rfl
        · exact ih
    exact key lv
  · have key : ∀ (ds : List Df) (l : List Deferred), RepDs C.sz0 C.yl ι s.σ (hp vis w) ds l → RepDs C.sz0 C.yl (gcPl kp ι) (σgc kp s.σ 12) (hp (gcVis kp ι vis) w) (ds.map (Df.gc kp s.σ)) l := by
      intro ds
      induction ds with
      | nil => intro l h; exact h
      | cons d ds ih =>
        rintro l ⟨d', l', e, r1, r0, r2⟩
        refine ⟨d', l', e, ?_, r0, ih l' r2⟩
        cases d with
        | mark => obtain ⟨b, e, h1, h2⟩ := r1; exact ⟨b, e, h1, gc_le kp ι vis w _ _ h2⟩
        | call f args =>
          obtain ⟨vs, cs, e, r⟩ := r1
          refine ⟨vs, cs, e, ?_⟩
          obtain ⟨hl, hr⟩ := RepEs_iff.1 r
          refine RepEs_iff.2 ⟨by simpa using hl, fun i x u hx hu => ?_⟩
          rw [List.getElem?_map] at hx
          obtain ⟨y, hy, rfl⟩ := Option.map_eq_some_iff.1 hx
          exact gc_ok X.mem 12 12 y u (hr i y u hy hu) rfl
    exact key _ _ X.df
theorem UpN.gc (U : UpN nb ι s.σ vis w ι s.σ vis w) {kp : List Nat} {lv : List Nat} (hb : keepsBase nb kp = true) : UpN nb ι s.σ vis w (gcPl kp ι) (s.gc kp lv).σ (gcVis kp ι vis) w := by
  unfold keepsBase at hb
  have hb' : kp.take nb = List.range nb := by simpa using hb
  have hlen : nb ≤ kp.length := by
    have := congrArg List.length hb'
    simp at this
    omega
  have hat : ∀ id, id < nb → kp[id]? = some id := fun id hid => by
    have h1 : (kp.take nb)[id]? = some id := by rw [hb', List.getElem?_range hid]
    rw [List.getElem?_take, if_pos hid] at h1
    exact h1
  have hp1 : ∀ id, id < nb → gcPl kp ι id = ι id := fun id hid => by unfold gcPl; rw [hat id hid]; rfl
  have hr1 : ∀ id, id < nb → rowLen (s.gc kp lv).σ id = rowLen s.σ id := fun id hid => rowLen_gc 12 (hat id hid)
  refine ⟨U.len, by simp only [St.gc, σgc, List.length_map]; exact hlen, fun id hid h => ⟨by rw [hr1 id hid]; exact h, hp1 id hid⟩, fun id n hid h => ⟨n, by rw [hr1 id hid]; exact h, Nat.le_refl _, fun _ => hp1 id hid⟩,
    gc_le kp ι vis w, Nat.le_refl _, fun i b c h => ?_, fun b h => ?_⟩
  · obtain ⟨id, _, h2⟩ := Option.bind_eq_some_iff.1 h
    exact .inl ⟨id, c, h2⟩
  · rcases h with h | ⟨i, c, h, _⟩
    · exact .inl h
    · exact .inr (.inr ⟨i, c, h⟩)
end
def Sub (nb : Nat) (s s' : St) : Prop := ∀ (C : Cx) (a : Act) (w : World) (ι : Pl) (vis D : Nat → Prop), nb ≤ s.σ.length → InvX C s a w ι vis D →
  ∃ ι' vis', InvX C s' a w ι' vis' D ∧ UpN nb ι s.σ vis w ι' s'.σ vis' w
theorem Sub.refl (nb : Nat) (s : St) : Sub nb s s := fun _ _ w ι vis _ h X => ⟨ι, vis, X, UpN.refl h ι vis w⟩
theorem Sub.trans {nb : Nat} {s s' s'' : St} (x : Sub nb s s') (y : Sub nb s' s'') : Sub nb s s'' := fun C a w ι vis D h X => by
  obtain ⟨ι', vis', X', U⟩ := x C a w ι vis D h X
  obtain ⟨ι'', vis'', X'', U'⟩ := y C a w ι' vis' D U.len' X'
  exact ⟨ι'', vis'', X'', U.trans U'⟩
theorem Sub.gc {nb : Nat} {s : St} (kp lv : List Nat) (h1 : gcOK kp s.σ = true) (h2 : keepsBase nb kp = true) : Sub nb s (s.gc kp lv) := fun _ _ w ι vis _ h X =>
  ⟨_, _, X.gc lv h1, UpN.gc (UpN.refl h ι vis w) h2⟩
theorem Sub.env {nb : Nat} {s : St} (env : List (Nat × E)) (h : ∀ i, lk env i = lk s.env i ∨ lk env i = .undef) : Sub nb s { s with env := env } := fun _ _ w ι vis _ hn X =>
  ⟨ι, vis, ⟨X.mem, X.sz, fun i => by
    rcases h i with e | e
    · rw [show ({ s with env := env } : St).env = env from rfl, e]; exact X.env i
    · rw [show ({ s with env := env } : St).env = env from rfl, e]; unfold RepE; trivial, X.df⟩, UpN.refl hn ι vis w⟩
section
variable {C : Cx} {s : St} {a : Act} {w : World} {ι : Pl} {vis D : Nat → Prop} {nb : Nat}
theorem Mem.ghost {k : Nat} {σ : List AO} (M : Mem C k σ w ι vis D) {es : Nat} (he : 0 < es) : Mem C k (σ ++ [.row es []]) w ι vis D ∧ Goes ι σ ι (σ ++ [.row es []]) := by
  have hno : ι σ.length = none := by
    cases h : ι σ.length with
    | none => rfl
    | some bc => exact absurd (M.own _ bc.1 bc.2 h).1 (Nat.lt_irrefl _)
  refine M.push (.row es []) (w' := w) ⟨Nat.le_refl _, rfl, rfl, rfl, fun _ _ _ => rfl⟩ (fun _ _ => rfl) (fun j hj => ?_) (fun b c h => ?_) ?_
  · cases h : ι j with
    | none => rfl
    | some bc => exact absurd (M.own _ bc.1 bc.2 h).1 (by omega)
  · rw [hno] at h; cases h
  · rw [hno]; exact ⟨es, [], rfl, fun _ => rfl⟩
theorem ghost_rep {yl : Nat} {k : Nat} {σ : List AO} (M : Mem C k σ w ι vis D) {es : Nat} {h : Hp} : RepE yl ι (σ ++ [.row es []]) h (.loc σ.length 0) (.slice none 0 0) := by
  have hno : ι σ.length = none := by
    cases h : ι σ.length with
    | none => rfl
    | some bc => exact absurd (M.own _ bc.1 bc.2 h).1 (Nat.lt_irrefl _)
  have hrl : rowLen (σ ++ [.row es []]) σ.length = some 0 := by simp [rowLen, AO.len?]
  unfold RepE
  exact ⟨by simp, by rw [hrl]; rfl, by simp, by simp [One, Value.oneCell'], fun _ => .inr ⟨hno, rfl, rfl⟩⟩
end
theorem Sub.ghost {nb : Nat} {s : St} (t es : Nat) (he : 0 < es) (h : lk s.env t = .t (.lit (.slice none 0 0))) :
    Sub nb s { s with env := (t, .loc s.σ.length 0) :: s.env, σ := s.σ ++ [.row es []] } := fun C a w ι vis D hn X => by
  obtain ⟨M, g⟩ := X.mem.ghost he
  have hup : Up ι s.σ vis w ι (s.σ ++ [.row es []]) vis w := Up.of g (Hp.le_refl _) (Nat.le_refl _) fun i b c h => .inl ⟨i, c, h⟩
  have X' := X.go M g (Hp.le_refl _)
  refine ⟨ι, vis, ⟨X'.mem, X'.sz, fun i => ?_, X'.df⟩, UpN.of hn hup⟩
  simp only [lk]
  split
  · rename_i e
    subst e
    have r := X.env i
    rw [h] at r
    unfold RepE RepT at r
    rw [r]
    exact ghost_rep X.mem
  · exact X'.env i
theorem Sub.ghostC {nb : Nat} {s : St} (id i es : Nat) {cs : List E} (he : 0 < es) (h : s.σ[id]? = some (.cells cs)) (hc : cs[i]? = some (.t (.lit (.slice none 0 0)))) :
    Sub nb s { s with σ := s.σ.set id (.cells (cs.set i (.loc s.σ.length 0))) ++ [.row es []] } := fun C a w ι vis D hn X => by
  obtain ⟨M, g⟩ := X.mem.ghost he
  have X1 := X.go M g (Hp.le_refl _)
  have hlt := (List.getElem?_eq_some_iff.1 h).1
  have hob := M.objs id (.cells cs) (by rw [List.getElem?_append_left hlt]; exact h)
  obtain ⟨bc, hi⟩ : ∃ bc, ι id = some bc := by
    cases hi : ι id with
    | some bc => exact ⟨bc, rfl⟩
    | none => rw [hi] at hob; obtain ⟨_, _, hx, _⟩ := hob; cases hx
  obtain ⟨b, c⟩ := bc
  rw [hi] at hob
  obtain ⟨ob, hh, us, ty, rfl, r, o1⟩ := hob
  have hset : s.σ.set id (.cells (cs.set i (.loc s.σ.length 0))) ++ [AO.row es []] = (s.σ ++ [AO.row es []]).set id (.cells (cs.set i (.loc s.σ.length 0))) := by
    rw [List.set_append_left _ _ hlt]
  have g2 : Goes ι (s.σ ++ [AO.row es []]) ι ((s.σ ++ [AO.row es []]).set id (.cells (cs.set i (.loc s.σ.length 0)))) := Goes.set (o := .cells cs) (by rw [List.getElem?_append_left hlt]; exact h) rfl
  have M2 : Mem C (C.k0 + s.k) ((s.σ ++ [AO.row es []]).set id (.cells (cs.set i (.loc s.σ.length 0)))) w ι vis D := by
    refine M.turn (w' := w) (ι' := ι) (row := none) (by simp; omega) _ ⟨Nat.le_refl _, rfl, rfl, rfl, fun _ _ _ => rfl⟩ (fun _ h => by cases h) (fun _ _ => rfl) (fun b c h => .inl ⟨c, h⟩) g2 ?_
    rw [hi]
    refine ⟨_, hh, us, ty, rfl, ?_, o1⟩
    obtain ⟨hl, hr⟩ := RepEs_iff.1 r
    refine RepEs_iff.2 ⟨by simpa using hl, fun j x v hx hv => ?_⟩
    by_cases e : j = i
    · subst e
      have hj := (List.getElem?_eq_some_iff.1 hc).1
      rw [List.getElem?_set_self hj] at hx
      cases hx
      have r0 := hr j _ v hc hv
      unfold RepE RepT at r0
      subst r0
      exact (ghost_rep X.mem).mono g2 (Hp.le_refl _)
    · rw [List.getElem?_set_ne (Ne.symm e)] at hx
      exact (hr j x v hx hv).mono g2 (Hp.le_refl _)
  have g3 := g.trans g2
  rw [← hset] at M2 g3
  have hup := Up.of g3 (Hp.le_refl _) (Nat.le_refl w.heap.size) (vis := vis) fun i b c h => .inl ⟨i, c, h⟩
  exact ⟨ι, vis, X.go M2 g3 (Hp.le_refl _), UpN.of hn hup⟩
end Go.Ab
namespace Go.Ab
structure AI where
  dst : Option Nat
  g : Option (Nat × Bool)
  op : AOp
  deriving Inhabited
inductive DT where
  | done
  | step (i : AI) (t : DT)
  | ev (i : AI) (chk : List AI) (t : DT) (rest : DT)
  | stop
  deriving Inhabited
inductive AC where
  | skip
  | reg (is : List AI)
  | draw (t : DT)
  /-- A region that draws its order, by what is so of all that is done; deps: what must be done ahead of each. -/
  | drawI (is : List AI) (deps : List (List Nat))
  | gcp
  | seq (a b : AC)
  | cond (x : Opd) (a b : AC)
  | block (id : Nat) (c : AC)
  | loop (c : AC)
  | exit (id : Nat)
  | scope (c : AC)
  | ret
  | rangeF (g : Opd) (p : Nat) (asg body : AC)
  deriving Inhabited
inductive Ex where
  | normal
  | exit (id : Nat)
  | ret
  | pan (x : T)
inductive Out where
  | ret (e : E)
  | pan (x : T)
def RepOut (yl : Nat) (ι : Pl) (σ : List AO) (h : Hp) : Out → Ending → Prop
  | .ret e, .returned v => RepE yl ι σ h e v
  | .pan x, .panicked chain => ∃ v, chain = [{ v, recovered := false }] ∧ RepT h x v
  | _, _ => False
def FR (ro : Option Nat) : Fence := { Fence.wide with round := ro }
def UpD (D : Nat → Prop) (w : World) (D' : Nat → Prop) : Prop := (∀ b, D b → D' b) ∧ ∀ b, D' b → D b ∨ w.heap.size ≤ b
theorem UpD.refl (D : Nat → Prop) (w : World) : UpD D w D := ⟨fun _ h => h, fun _ h => .inl h⟩
theorem UpD.trans {D D' D'' : Nat → Prop} {w w' : World} (a : UpD D w D') (b : UpD D' w' D'') (h : w.heap.size ≤ w'.heap.size) : UpD D w D'' :=
  ⟨fun x hx => b.1 x (a.1 x hx), fun x hx => by
    rcases b.2 x hx with h' | h'
    · exact a.2 x h'
    · exact .inr (Nat.le_trans h h')⟩
def ACall (P : Program) (f : Nat) (args : List E) (σ : List AO) (R : Out → List AO → Prop) : Prop :=
  Plain P f ∧ ∀ (C : Cx) (k : Nat) (w : World) (ι : Pl) (vis D : Nat → Prop) (vs : List Value), C.P = P → Mem C k σ w ι vis D → RepEs C.yl ι σ (hp vis w) args vs →
    CallsIn Fence.wide 0 P f vs.toArray w fun e w' => ∃ o σ' ι' vis' D', R o σ' ∧ Mem C k σ' w' ι' vis' D' ∧ Up ι σ vis w ι' σ' vis' w' ∧ UpD D w D' ∧ RepOut C.yl ι' σ' (hp vis' w') o e
def PanV (x : T) (e : Ending) : Prop := ∃ v, e = .panicked [{ v, recovered := false }] ∧ ∀ h : Hp, RepT h x v
def YOK (C : Cx) (vis₀ : Nat → Prop) (w₀ : World) (yp : Nat → Value → Prop) (sk : Option Nat := none) (pk : Option (Nat × T) := none) : Prop := ∀ j D w v, C.hist (C.k0 + j) D w → (∀ b o, vis₀ b → w₀.heap[b]? = some o → w.heap[b]? = some o) → yp j v →
  ∃ fn tmps assign body, (Instr.yield C.yl #[v]).run C.P w = .ok (.round C.yl fn tmps assign body) w ∧
    RoundIn Fence.wide 0 C.P C.yl fn tmps assign body w fun e w' => ∃ k', ((e = .returned (.bool true) ∧ k' = j + 1) ∨ (e = .returned (.bool false) ∧ sk = some k') ∨ (∃ x, pk = some (k', x) ∧ PanV x e)) ∧ ∃ D', UpD D w D' ∧ (∀ b, b < w.heap.size → ¬ D b → w'.heap[b]? = w.heap[b]?) ∧ w.heap.size ≤ w'.heap.size ∧
      (∀ b, D' b → b < w'.heap.size) ∧ C.hist (C.k0 + k') D' w'
def AGen (P : Program) (f : Nat) (args : List E) (L : List Value) (sk : Option Nat := none) (pk : Option (Nat × T) := none) : Prop :=
  Plain P f ∧ ∀ (C : Cx) (w : World) (ι : Pl) (vis D : Nat → Prop) (vs : List Value), C.P = P → YOK { C with k0 := 0 } vis w (fun j v => L[j]? = some v) sk pk → Mem C 0 [] w ι vis D → RepEs C.yl ι [] (hp vis w) args vs →
    CallsIn Fence.wide 0 P f vs.toArray w fun e w' => ∃ m σ' ι' vis' D', (((∃ v, e = .returned v) ∧ (m = L.length ∨ sk = some m)) ∨ ∃ x, pk = some (m, x) ∧ PanV x e) ∧ Mem C m σ' w' ι' vis' D' ∧ Up ι [] vis w ι' σ' vis' w' ∧ UpD D w D'
theorem ACall.mono {P : Program} {f : Nat} {args : List E} {σ : List AO} {R R' : Out → List AO → Prop} (h : ACall P f args σ R) (hr : ∀ o σ', R o σ' → R' o σ') : ACall P f args σ R' :=
  ⟨h.1, fun C k w ι vis D vs hC M r => (h.2 C k w ι vis D vs hC M r).mono fun _ _ ⟨o, σ', ι', vis', D', h1, h2⟩ => ⟨o, σ', ι', vis', D', hr _ _ h1, h2⟩⟩
def St.put (s : St) (d : Option Nat) (e : E) : St := match d with
  | none => s
  | some d => { s with env := (d, e) :: s.env }
def St.cut (pn : List Nat) (s : St) : St := { s with env := pn.map fun t => (t, lk s.env t) }
structure W where
  P : Program
  nb : Nat
  pn : List Nat := []
  ro : Option Nat := none
  yp : Nat → Value → Prop := fun _ _ => False
  sk : Option Nat := none
  pk : Option (Nat × T) := none
def stp (st : Bool) (L : List Value) : Option Nat := if st then some (L.length + 1) else none
def wpRes (W : W) (s : St) (K : E → St → Prop) (Kp : T → St → Prop) : Res → Prop
  | .no => False
  | .ok e σ' => K e { s with σ := σ' }
  | .pan x => Kp x (s.cut W.pn)
  | .call f args => ACall W.P f args s.σ fun o σ' => match o with | .ret e => K e { s with σ := σ' } | .pan x => Kp x (St.cut W.pn { s with σ := σ' })
  | .yield args => match args with
    | [.t x] => match x.val? with
      | some v => W.ro = none ∧ W.yp s.k v ∧ (match W.sk with | none => True | some n => K (.t (.lit (.bool false))) { s with k := n }) ∧ (match W.pk with | none => True | some (n, x) => Kp x (St.cut W.pn { s with k := n })) ∧ K (.t (.lit (.bool true))) { s with k := s.k + 1 }
      | none => False
    | _ => False
  | .need c r => c ∧ wpRes W s K Kp r
  | .defer f args => W.ro = none ∧ K (.t (.lit undef)) { s with df := .call f args :: s.df }
  | .any k => ∀ i, wpRes W s K Kp (k i)
  | .triv => True
def gv : Value → Bool → Bool
  | .bool c, b => c == b
  | _, _ => false
def Br (c : Bool) (A B : Prop) : Prop := (c = true → A) ∧ (c = false → B)
def wpI (W : W) (i : AI) (K : St → Prop) (Kp : T → St → Prop) (s : St) : Prop := match i.g with
  | none => wpRes W s (fun e s' => K (s'.put i.dst e)) Kp (i.op.ex s.env s.σ)
  | some (t, b) => match lk s.env t with
    | .t (.lit v) => Br (gv v b) (wpRes W s (fun e s' => K (s'.put i.dst e)) Kp (i.op.ex s.env s.σ)) (K (s.put i.dst (.t (.lit undef))))
    | _ => False
def wpIs (W : W) (K : St → Prop) (Kp : T → St → Prop) : List AI → St → Prop
  | [], s => K s
  | i :: is, s => wpI W i (fun s' => wpIs W K Kp is s') Kp s
def resIs (σ : List AO) (e : E) : Res → Prop
  | .ok e' σ' => e' = e ∧ σ' = σ
  | .need c r => c ∧ resIs σ e r
  | _ => False
def Yld (i : AI) (e : E) (s : St) : Prop := match i.g with
  | none => resIs s.σ e (i.op.ex s.env s.σ)
  | some (t, b) => match lk s.env t with
    | .t (.lit v) => Br (gv v b) (resIs s.σ e (i.op.ex s.env s.σ)) (e = .t (.lit undef))
    | _ => False
def chkOK (s : St) : List AI → Prop
  | [] => True
  | i :: is => (match i.dst with | some d => Yld i (lk s.env d) s | none => True) ∧ chkOK s is
def awpD (W : W) (Q : St → Prop) (Kp : T → St → Prop) : DT → St → Prop
  | .done, s => Q s
  | .step i t, s => wpI W i (fun s' => awpD W Q Kp t s') Kp s
  | .ev i chk t rest, s => wpI W i (fun s' => chkOK s' chk ∧ awpD W Q Kp t s') Kp s ∧ awpD W Q Kp rest s
  | .stop, _ => True
def awp : W → AC → (Ex → St → Prop) → St → Prop
  | W, .skip, Q, s => Q .normal s
  | W, .reg is, Q, s => wpIs W (Q .normal) (fun x s => Q (.pan x) s) is s
  | W, .draw t, Q, s => awpD W (Q .normal) (fun x s => Q (.pan x) s) t s
  | W, .drawI is deps, Q, s => ∃ I : (Nat → Bool) → St → Prop, I (fun _ => false) s ∧
      (∀ L s j i, I L s → is[j]? = some i → L j = false → (∀ d ∈ deps.getD j [], L d = true) → wpI W i (fun s' => I (fun x => x == j || L x) s') (fun x s => Q (.pan x) s) s) ∧
      ∀ L s, I L s → (∀ j, j < is.length → L j = true) → Q .normal s
  | W, .gcp, Q, s => ∃ s', Sub W.nb s s' ∧ Q .normal s'
  | W, .seq a b, Q, s => awp W a (fun e s => match e with | .normal => awp W b Q s | e => Q e s) s
  | W, .cond x a b, Q, s => match x.ev s.env with
    | .t (.lit (.bool t)) => Br t (awp W a Q s) (awp W b Q s)
    | _ => False
  | W, .block id c, Q, s => awp W c (fun e s => match e with | .exit j => if j = id then Q .normal s else Q (.exit j) s | e => Q e s) s
  | W, .loop c, Q, s => ∃ inv : Nat → St → Prop, (∃ n s', Sub W.nb s s' ∧ inv n s') ∧
      ∀ n s, inv n s → awp W c (fun e s => match e with | .normal => ∃ m s', m < n ∧ Sub W.nb s s' ∧ inv m s' | e => Q e s) s
  | W, .exit id, Q, s => Q (.exit id) s
  | W, .scope c, Q, s => awp W c Q s
  | W, .ret, Q, s => Q .ret s
  | W, .rangeF g p asg body, Q, s => W.ro = none ∧ ∃ (f : Nat) (fs cs : List T) (L : List Value) (inv : Nat → List AO → Prop) (kp lv : List Nat) (st : Bool) (S : Ex → List AO → Prop),
      g.ev s.env = .t (.fn (.func f) fs cs) ∧ AGen W.P f (fs.map .t ++ .yld :: cs.map .t) L (stp st L) ∧ gcOK kp s.σ = true ∧ keepsBase W.nb kp = true ∧ inv 0 (σgc kp s.σ 12) ∧
      (∀ l j v σ, L[j]? = some v → inv j σ → awp { W with ro := some l, nb := kp.length, pn := [], yp := fun _ _ => False, sk := none, pk := none } asg
        (fun e s1 => match e with | .normal => awp { W with ro := some l, nb := kp.length, pn := [], yp := fun _ _ => False, sk := none, pk := none } body (fun e s' => match e with | .normal => s'.df = [] ∧ s'.k = s.k ∧ ∃ kp', gcOK kp' s'.σ = true ∧ keepsBase kp.length kp' = true ∧ inv (j + 1) (σgc kp' s'.σ 12) | .pan _ => False | e => st = true ∧ s'.df = [] ∧ s'.k = s.k ∧ ∃ kp', gcOK kp' s'.σ = true ∧ keepsBase kp.length kp' = true ∧ S e (σgc kp' s'.σ 12)) s1 | _ => False)
        { env := (p, .t (T.ofV v)) :: (s.gc kp lv).env, σ := σ, df := [], k := s.k }) ∧
      (∀ σ, inv L.length σ → Q .normal { s.gc kp lv with σ := σ, df := .mark :: (s.gc kp lv).df }) ∧ ∀ e σ, S e σ → Q e { s.gc kp lv with σ := σ, df := .mark :: (s.gc kp lv).df }
theorem wpRes_mono {W : W} {s : St} {K K' : E → St → Prop} {Kp Kp' : T → St → Prop} (h : ∀ e s, K e s → K' e s) (hp : ∀ x s, Kp x s → Kp' x s) : ∀ {r : Res}, wpRes W s K Kp r → wpRes W s K' Kp' r := by
  intro r
  induction r with
  | no => exact fun h => h
  | ok _ _ => exact fun h0 => h _ _ h0
  | pan _ => exact fun h0 => hp _ _ h0
  | call _ _ => exact fun h0 => ACall.mono h0 fun o σ' h1 => by cases o; exact h _ _ h1; exact hp _ _ h1
  | yield args =>
    intro h0
    simp only [wpRes] at h0 ⊢
    split at h0
    · split at h0
      · refine ⟨h0.1, h0.2.1, ?_, ?_, h _ _ h0.2.2.2.2⟩
        · have h1 := h0.2.2.1
          split at h1
          · trivial
          · exact h _ _ h1
        · have h1 := h0.2.2.2.1
          split at h1
          · trivial
          · exact hp _ _ h1
      · exact h0.elim
    · exact h0.elim
  | need _ r ih => exact fun h0 => ⟨h0.1, ih h0.2⟩
  | defer _ _ => exact fun h0 => ⟨h0.1, h _ _ h0.2⟩
  | any k ih => exact fun h0 i => ih i (h0 i)
  | triv => exact fun h0 => h0
theorem wpI_mono {W : W} {i : AI} {K K' : St → Prop} {Kp Kp' : T → St → Prop} (h : ∀ s, K s → K' s) (hp : ∀ x s, Kp x s → Kp' x s) {s : St} (h0 : wpI W i K Kp s) : wpI W i K' Kp' s := by
  simp only [wpI] at h0 ⊢
  split
  · rename_i hg
    simp only [hg] at h0
    exact wpRes_mono (fun e σ h1 => h _ h1) hp h0
  · rename_i t b hg
    simp only [hg] at h0
    split
    · rename_i v hv
      simp only [hv] at h0
      exact ⟨fun h1 => wpRes_mono (fun e σ h1 => h _ h1) hp (h0.1 h1), fun h1 => h _ (h0.2 h1)⟩
    · rename_i hne
      split at h0
      · rename_i v hv; exact absurd hv (hne v)
      · exact h0
theorem wpIs_mono {W : W} {K K' : St → Prop} {Kp Kp' : T → St → Prop} (h : ∀ s, K s → K' s) (hp : ∀ x s, Kp x s → Kp' x s) : ∀ (is : List AI) {s : St}, wpIs W K Kp is s → wpIs W K' Kp' is s
  | [], _, h0 => h _ h0
  | _ :: is, _, h0 => wpI_mono (fun _ h1 => wpIs_mono h hp is h1) hp h0
theorem awpD_mono {W : W} {K K' : St → Prop} {Kp Kp' : T → St → Prop} (h : ∀ s, K s → K' s) (hp : ∀ x s, Kp x s → Kp' x s) : ∀ (t : DT) {s : St}, awpD W K Kp t s → awpD W K' Kp' t s
  | .done, _, h0 => h _ h0
  | .step _ t, _, h0 => wpI_mono (fun _ h1 => awpD_mono h hp t h1) hp h0
  | .ev _ _ t r, _, h0 => ⟨wpI_mono (fun _ h1 => ⟨h1.1, awpD_mono h hp t h1.2⟩) hp h0.1, awpD_mono h hp r h0.2⟩
  | .stop, _, _ => trivial
theorem awp_mono {W : W} : ∀ (c : AC) {Q Q' : Ex → St → Prop} (_ : ∀ e s, Q e s → Q' e s) {s : St}, awp W c Q s → awp W c Q' s
  | .skip, _, _, h, _, h0 => h _ _ h0
  | .reg is, _, _, h, _, h0 => wpIs_mono (fun _ h1 => h _ _ h1) (fun _ _ h1 => h _ _ h1) is h0
  | .draw t, _, _, h, _, h0 => awpD_mono (fun _ h1 => h _ _ h1) (fun _ _ h1 => h _ _ h1) t h0
  | .drawI _ _, _, _, h, _, h0 => let ⟨I, h1, h2, h3⟩ := h0; ⟨I, h1, fun L s j i a b c d => wpI_mono (fun _ h => h) (fun _ _ h1 => h _ _ h1) (h2 L s j i a b c d), fun L s a b => h _ _ (h3 L s a b)⟩
  | .gcp, _, _, h, _, h0 => let ⟨s', h1, h2⟩ := h0; ⟨s', h1, h _ _ h2⟩
  | .seq a b, _, _, h, _, h0 => awp_mono a (fun e s h1 => by
      cases e with
      | normal => exact awp_mono b h h1
      | _ => exact h _ _ h1) h0
  | .cond x a b, _, _, h, s, h0 => by
    simp only [awp] at h0 ⊢
    split
    · rename_i t ht
      simp only [ht] at h0
      exact ⟨fun h1 => awp_mono a h (h0.1 h1), fun h1 => awp_mono b h (h0.2 h1)⟩
    · rename_i hne
      split at h0
      · rename_i t ht; exact absurd ht (hne t)
      · exact h0
  | .block id c, _, _, h, _, h0 => awp_mono c (fun e s h1 => by
      cases e with
      | exit j =>
        simp only at h1 ⊢
        split
        · rename_i e; rw [if_pos e] at h1; exact h _ _ h1
        · rename_i e; rw [if_neg e] at h1; exact h _ _ h1
      | _ => exact h _ _ h1) h0
  | .loop c, _, _, h, _, h0 => by
    obtain ⟨inv, hi, hr⟩ := h0
    refine ⟨inv, hi, fun n s hs => awp_mono c (fun e s h1 => ?_) (hr n s hs)⟩
    cases e with
    | normal => exact h1
    | _ => exact h _ _ h1
  | .exit id, _, _, h, _, h0 => h _ _ h0
  | .scope c, _, _, h, _, h0 => awp_mono c h h0
  | .ret, _, _, h, _, h0 => h _ _ h0
  | .rangeF _ _ _ _, _, _, h, _, h0 => by
    obtain ⟨hro, f, fs, cs, L, inv, kp, lv, st, S, h1, h2, h3, h4, h5, h6, h7, h8⟩ := h0
    exact ⟨hro, f, fs, cs, L, inv, kp, lv, st, S, h1, h2, h3, h4, h5, h6, fun σ hσ => h _ _ (h7 σ hσ), fun e σ hσ => h _ _ (h8 e σ hσ)⟩
end Go.Ab
