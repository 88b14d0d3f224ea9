/- Proved here: laws that the statements need (AbD). No conditions but those that each law states. -/
import Derived.Test.YtbhbbjngndmnmaaGreatDoorFA
import Derived.Laws.Entries
set_option linter.unusedSimpArgs false
set_option linter.unusedVariables false
namespace Go.Ab
def tyI (P : Program) (t : TypeId) : Option (Bool × Nat) :=
  match P.underlying t, P.info? t with
  | some d, some i => some (match d with | .struct _ | .array _ _ => true | _ => false, i.size)
  | _, _ => none
theorem tyI_spec {P : Program} {t : TypeId} {ag : Bool} {k : Nat} (h : tyI P t = some (ag, k)) (w : World) :
    (isAgg t).run P w = .ok ag w ∧ (sizeOf t).run P w = .ok k w := by
  unfold tyI at h
  split at h
  · rename_i d i hd hi
    cases h
    refine ⟨?_, by simp [sizeOf, typeInfo, hi]⟩
    unfold isAgg
    rw [Sem.run_bind, run_underlying hd]
    cases d <;> rfl
  · cases h
theorem addr_add (b o n : Nat) : (⟨b, o, none⟩ : Addr).add n = ⟨b, o + n, none⟩ := by
  unfold Addr.add; split <;> simp_all
section
variable {P : Program} {w : World}
theorem run_loadVar {t : TypeId} {ag : Bool} {k : Nat} (ht : tyI P t = some (ag, k)) (b o : Nat) (us : List Value) (hk : ag = true → us.length = k) (h1 : ag = false → us.length = 1)
    (hc : ∀ (j : Nat) u, us[j]? = some u → w.cell? ⟨b, o + j, none⟩ = some u) : (loadVar t ⟨b, o, none⟩).run P w = .ok (if ag then .agg us.toArray else us.headD undef) w := by
  obtain ⟨hA, hS⟩ := tyI_spec ht w
  unfold loadVar
  rw [Sem.run_bind, hA]
  cases ag with
  | true =>
    have hl := run_loadCells_list (P := P) w ⟨b, o, none⟩ us (fun j u hu => by rw [addr_add]; exact hc j u hu)
    simp [hS, ← hk rfl, hl]
  | false =>
    match us, h1 rfl with
    | [u], _ =>
      have := hc 0 u rfl
      simp only [Nat.add_zero] at this
      simp [this]
theorem run_storeVar {t : TypeId} {ag : Bool} {k : Nat} (ht : tyI P t = some (ag, k)) (b o : Nat) (v : Value) (cur : Array Value) (ty : TypeId) (hk : v.cells.size = k) (hb : w.heap[b]? = some (.cells cur ty (0, 0)))
    (hf : o + k ≤ cur.size) (h1 : ∀ u ∈ v.cells.toList, One u) : (storeVar t ⟨b, o, none⟩ v).run P w = .ok () (w.setRow b (splice cur.toList o v.cells.toList).toArray) := by
  obtain ⟨_, hS⟩ := tyI_spec ht w
  have hst := run_storeCells_at P b o ty v.cells.toList 0 cur w hb (by simp; omega) h1
  unfold storeVar
  simp only [Nat.add_zero] at hst
  simp [hS, hk, hst, splice]
end
theorem step_setRow (w : World) (g : Nat) (cs : Array Value) : Step w (w.setRow g cs) (some g) :=
  ⟨by simp, rfl, rfl, rfl, fun k _ hk => setRow_other w g k cs (fun e => hk (by rw [e]))⟩
section
variable {yl : Nat} {ι : Pl} {σ : List AO} {h : Hp}
theorem RepEs.length {xs : List E} {vs : List Value} (r : RepEs yl ι σ h xs vs) : xs.length = vs.length := (RepEs_iff.1 r).1
theorem RepEs.get {xs : List E} {vs : List Value} (r : RepEs yl ι σ h xs vs) {i : Nat} {x : E} (hx : xs[i]? = some x) : ∃ v, vs[i]? = some v ∧ RepE yl ι σ h x v := by
  obtain ⟨hl, hr⟩ := RepEs_iff.1 r
  have hi : i < vs.length := by rw [← hl]; exact (List.getElem?_eq_some_iff.1 hx).1
  exact ⟨vs[i], List.getElem?_eq_getElem hi, hr i x _ hx (List.getElem?_eq_getElem hi)⟩
theorem RepEs.take {xs : List E} {vs : List Value} (r : RepEs yl ι σ h xs vs) (n : Nat) : RepEs yl ι σ h (xs.take n) (vs.take n) := by
  obtain ⟨hl, hr⟩ := RepEs_iff.1 r
  refine RepEs_iff.2 ⟨by simp [hl], fun i x v hx hv => ?_⟩
  rw [List.getElem?_take] at hx hv
  split at hx
  · rename_i hi; rw [if_pos hi] at hv; exact hr i x v hx hv
  · cases hx
theorem RepEs.drop {xs : List E} {vs : List Value} (r : RepEs yl ι σ h xs vs) (n : Nat) : RepEs yl ι σ h (xs.drop n) (vs.drop n) := by
  obtain ⟨hl, hr⟩ := RepEs_iff.1 r
  refine RepEs_iff.2 ⟨by simp [hl], fun i x v hx hv => ?_⟩
  rw [List.getElem?_drop] at hx hv
  exact hr _ x v hx hv
theorem RepEs.append {xs ys : List E} {vs us : List Value} (r : RepEs yl ι σ h xs vs) (r' : RepEs yl ι σ h ys us) : RepEs yl ι σ h (xs ++ ys) (vs ++ us) := by
  obtain ⟨hl, hr⟩ := RepEs_iff.1 r
  obtain ⟨hl', hr'⟩ := RepEs_iff.1 r'
  refine RepEs_iff.2 ⟨by simp [hl, hl'], fun i x v hx hv => ?_⟩
  by_cases hi : i < xs.length
  · rw [List.getElem?_append_left hi] at hx
    rw [List.getElem?_append_left (hl ▸ hi)] at hv
    exact hr i x v hx hv
  · rw [List.getElem?_append_right (by omega)] at hx
    rw [List.getElem?_append_right (by omega), ← hl] at hv
    exact hr' _ x v hx hv
theorem RepEs.set {xs : List E} {vs : List Value} (r : RepEs yl ι σ h xs vs) (i : Nat) {x : E} {v : Value} (rx : RepE yl ι σ h x v) : RepEs yl ι σ h (xs.set i x) (vs.set i v) := by
  obtain ⟨hl, hr⟩ := RepEs_iff.1 r
  refine RepEs_iff.2 ⟨by simp [hl], fun j y u hx hv => ?_⟩
  by_cases hi : i = j
  · subst hi
    rw [List.getElem?_set] at hx hv
    simp only [if_true] at hx hv
    split at hx
    · rw [if_pos (by omega)] at hv; cases hx; cases hv; exact rx
    · cases hx
  · rw [List.getElem?_set_ne hi] at hx hv
    exact hr j y u hx hv
theorem RepEs.splice {xs ys : List E} {vs us : List Value} (r : RepEs yl ι σ h xs vs) (off : Nat) (r' : RepEs yl ι σ h ys us) : RepEs yl ι σ h (splice xs off ys) (splice vs off us) := by
  unfold Ab.splice
  rw [r'.length]
  exact ((r.take off).append r').append (r.drop _)
theorem allT_map (ts : List T) : allT (ts.map .t) = some ts := by
  induction ts with
  | nil => rfl
  | cons x xs ih => simp [allT, ih]
theorem rdT_rd (ag : Bool) (k : Nat) (ts : List T) (off : Nat) : (rdT ag k ts off).map .t = rd ag k (ts.map .t) off := by
  unfold rdT rd
  cases ag with
  | true =>
    simp only [if_true, List.length_map]
    split
    · simp only [Option.map_some]
      rw [← List.map_drop, ← List.map_take]
      unfold E.mk
      rw [allT_map]
    · rfl
  | false => simp [List.getElem?_map]
theorem T.cells?_E {x : T} {cs : List T} (e : x.cells? = some cs) : (E.t x).cells? = some (cs.map .t) := by
  cases x <;> simp only [T.cells?, E.cells?] at e ⊢
  · split at e
    · rename_i ho; cases e; simp [ho]
    · cases e
  all_goals first | (cases e; done) | (cases e; rfl)
end
section
variable {C : Cx} {s : St} {a : Act} {w : World} {ι : Pl} {vis D : Nat → Prop}
theorem read_ok {h : Hp} {yl : Nat} {σ : List AO} {P : Program} {t : TypeId} {ag : Bool} {k : Nat} (ht : tyI P t = some (ag, k)) {cs : List E} {us : List Value} (r : RepEs yl ι σ h cs us) (ho : ∀ u ∈ us, One u)
    {b o off : Nat} (hc : ∀ (j : Nat) u, us[j]? = some u → w.cell? ⟨b, o + j, none⟩ = some u) {e : E} (he : rd ag k cs off = some e) :
    ∃ u, (Instr.loadAt t (.pointer (some ⟨b, o + off, none⟩))).run P w = .ok u w ∧ RepE yl ι σ h e u := by
  cases ag with
  | true =>
    simp only [rd, if_true] at he
    split at he
    · rename_i hle
      cases he
      have hlen := r.length
      have hr := run_loadVar (P := P) (w := w) ht b (o + off) ((us.drop off).take k) (fun _ => by simp; omega) (fun e => by cases e) (fun j u hu => by
        rw [List.getElem?_take] at hu
        split at hu
        · rw [List.getElem?_drop] at hu
          rw [Nat.add_assoc]
          exact hc _ u hu
        · cases hu)
      refine ⟨_, by simp [Instr.loadAt, Instr.sureAddr, hr]; rfl, ?_⟩
      exact RepE.mk ((r.drop off).take k) (fun u hu => ho u (List.mem_of_mem_drop (List.mem_of_mem_take hu)))
    · cases he
  | false =>
    simp only [rd, if_false, Bool.false_eq_true] at he
    obtain ⟨v, hv, rv⟩ := r.get he
    have hr := run_loadVar (P := P) (w := w) ht b (o + off) [v] (fun e => by cases e) (fun _ => rfl) (fun j u hu => by
      cases j with
      | zero => simp at hu; subst hu; simpa using hc off v hv
      | succ j => simp at hu)
    exact ⟨v, by simpa [Instr.loadAt, Instr.sureAddr] using hr, rv⟩
theorem cell_of_heap {b : Nat} {arr : Array Value} {ty : TypeId} {fr : Nat × Nat} (hb : w.heap[b]? = some (.cells arr ty fr)) (j : Nat) : w.cell? ⟨b, j, none⟩ = arr[j]? := by
  simp [World.cell?, hb]
theorem flat_get : ∀ {vs : List Value} {es : Nat} (_ : ∀ v ∈ vs, v.cells.size = es) {i : Nat} {v : Value}, vs[i]? = some v → ∀ (j : Nat) (u : Value), v.cells.toList[j]? = some u → (vs.flatMap (·.cells.toList))[i * es + j]? = some u
  | [], _, _, _, _, h, _, _, _ => by simp at h
  | x :: vs, es, hs, 0, v, h, j, u, hu => by
    simp at h
    subst h
    simp only [List.flatMap_cons, Nat.zero_mul, Nat.zero_add]
    rw [List.getElem?_append_left (List.getElem?_eq_some_iff.1 hu).1]
    exact hu
  | x :: vs, es, hs, i + 1, v, h, j, u, hu => by
    have hx : x.cells.toList.length = es := by simpa using hs x (by simp)
    simp only [List.flatMap_cons]
    rw [List.getElem?_append_right (by rw [hx, Nat.add_mul]; omega), hx]
    rw [show (i + 1) * es + j - es = i * es + j from by rw [Nat.add_mul]; omega]
    exact flat_get (fun v hv => hs v (by simp [hv])) (by simpa using h) j u hu
theorem flat_length : ∀ {vs : List Value} {es : Nat} (_ : ∀ v ∈ vs, v.cells.size = es), (vs.flatMap (·.cells.toList)).length = vs.length * es
  | [], _, _ => by simp
  | x :: vs, es, hs => by
    have hx : x.cells.toList.length = es := by simpa using hs x (by simp)
    rw [List.flatMap_cons, List.length_append, hx, flat_length (fun v hv => hs v (by simp [hv])), List.length_cons, Nat.add_mul, Nat.one_mul, Nat.add_comm]
theorem rowLen_some {σ : List AO} {id es : Nat} {xs : List E} (h : σ[id]? = some (.row es xs)) : rowLen σ id = some xs.length := by simp [rowLen, h, AO.len?]
theorem load_ok (X : InvX C s a w ι vis D) {p e : E} {v : Value} {t : TypeId} {ag : Bool} {k : Nat} (ht : tyI C.P t = some (ag, k)) (hp : RepE C.yl ι s.σ (Ab.hp vis w) p v) (hl : load? s.σ ag k p = some e) :
    ∃ u, (Instr.loadAt t v).run C.P w = .ok u w ∧ RepE C.yl ι s.σ (Ab.hp vis w) e u := by
  unfold load? at hl
  split at hl
  · rename_i id off
    split at hl
    · rename_i cs ho
      unfold RepE at hp
      obtain ⟨_, _, b, c, hi, rfl⟩ := hp
      have hob := X.mem.objs id _ ho
      rw [hi] at hob
      obtain ⟨ob, hh, us, ty, rfl, r, o1⟩ := hob
      have := read_ok (P := C.P) (w := w) ht r o1 (b := b) (o := 0) (off := off) (fun j u hu => by rw [cell_of_heap hh]; simpa using hu) hl
      simpa using this
    · cases hl
  · rename_i id n es i off
    split at hl
    · rename_i es' xs ho
      split at hl
      · rename_i hn
        obtain ⟨cs, h1, h2⟩ := Option.bind_eq_some_iff.1 hl
        obtain ⟨x, hx, hxc⟩ := Option.bind_eq_some_iff.1 h1
        unfold RepE at hp
        obtain ⟨_, _, _, _, hlive⟩ := hp
        obtain ⟨b, c, hi, rfl⟩ := hlive (by rw [rowLen_some ho, hn.1])
        have hob := X.mem.objs id _ ho
        rw [hi] at hob
        obtain ⟨ob, hh, vs, rest, ty, rfl, r, hs, _, _, _, hpos⟩ := hob
        obtain ⟨hl1, rfl⟩ := hn
        obtain ⟨u, hu, ru⟩ := r.get hx
        have hcs := ru.cells hxc
        exact read_ok (P := C.P) (w := w) ht hcs.1 hcs.2 (fun j y hy => by
          rw [cell_of_heap hh]
          simp only [List.getElem?_toArray]
          have hf := flat_get (fun v hv => (hs v hv).1) hu j y hy
          rw [List.getElem?_append_left (List.getElem?_eq_some_iff.1 hf).1]
          exact hf) h2
      · cases hl
    · cases hl
  · rename_i x off
    obtain ⟨ts, h1, h2⟩ := Option.map_eq_some_iff.1 hl
    obtain ⟨cs, h3, h4⟩ := Option.bind_eq_some_iff.1 h1
    have hrd : rd ag k (cs.map .t) off = some e := by rw [← rdT_rd, h4]; simpa using h2
    unfold RepE RepT at hp
    obtain ⟨b, o, u, rfl, r, o1, arr, ty, fr, ⟨_, hh⟩, hcell⟩ := hp
    have hcs := RepE.cells (yl := C.yl) (ι := ι) (σ := s.σ) (T.cells?_E h3) (by unfold RepE; exact r)
    exact read_ok (P := C.P) (w := w) ht hcs.1 hcs.2 (fun j u hu => by rw [cell_of_heap hh]; exact hcell j u hu) hrd
  · rename_i cs off
    unfold RepE at hp
    obtain ⟨b, us, rfl, r, o1, arr, ty, fr, ⟨_, hh⟩, hcell⟩ := hp
    have := read_ok (P := C.P) (w := w) ht r o1 (b := b) (o := 0) (off := off) (fun j u hu => by rw [cell_of_heap hh]; exact hcell j u hu) hl
    simpa using this
  · cases hl
theorem isAgg_cells {e : E} {v : Value} {yl : Nat} {σ : List AO} {h : Hp} (r : RepE yl ι σ h e v) (ha : e.isAgg = true) : ∃ us : List Value, v = .agg us.toArray := by
  unfold E.isAgg at ha
  split at ha
  · unfold RepE RepT at r; obtain ⟨us, rfl, _⟩ := r; exact ⟨us, rfl⟩
  · unfold RepE at r; obtain ⟨us, rfl, _⟩ := r; exact ⟨us, rfl⟩
  · cases ha
theorem flat_splice : ∀ {vs : List Value} {es : Nat} (_ : ∀ v ∈ vs, v.cells.size = es) {i : Nat} {v v' : Value} (_ : vs[i]? = some v) {off : Nat} {us : List Value} (_ : off + us.length ≤ es)
    (_ : v'.cells.toList = splice v.cells.toList off us) (rest : List Value), splice (vs.flatMap (·.cells.toList) ++ rest) (i * es + off) us = (vs.set i v').flatMap (·.cells.toList) ++ rest
  | [], _, _, _, _, _, h, _, _, _, _, _ => by simp at h
  | x :: vs, es, hs, 0, v, v', h, off, us, hl, hv, rest => by
    simp at h
    subst h
    have hx : x.cells.toList.length = es := by simpa using hs x (by simp)
    simp only [List.flatMap_cons, Nat.zero_mul, Nat.zero_add, List.set_cons_zero, hv]
    unfold splice
    simp only [List.append_assoc]
    rw [List.take_append_of_le_length (by omega), List.drop_append_of_le_length (by omega)]
  | x :: vs, es, hs, i + 1, v, v', h, off, us, hl, hv, rest => by
    have hx : x.cells.toList.length = es := by simpa using hs x (by simp)
    have ih := flat_splice (es := es) (fun v hv => hs v (List.mem_cons_of_mem _ hv)) (i := i) (v' := v') (by simpa using h) hl hv rest
    simp only [List.flatMap_cons, List.set_cons_succ, List.append_assoc]
    rw [← ih]
    unfold splice
    have e1 : (i + 1) * es + off = x.cells.toList.length + (i * es + off) := by rw [hx, Nat.add_mul]; omega
    rw [e1, Nat.add_assoc, List.take_length_add_append, List.drop_length_add_append]
    simp [List.append_assoc]
theorem Goes.set {ι : Pl} {σ : List AO} {id : Nat} {o o' : AO} (ho : σ[id]? = some o) (hl : o'.len? = o.len?) : Goes ι σ ι (σ.set id o') := by
  have hid : id < σ.length := (List.getElem?_eq_some_iff.1 ho).1
  have hrl : ∀ j, rowLen (σ.set id o') j = rowLen σ j := fun j => by
    unfold rowLen
    by_cases hj : id = j
    · subst hj; rw [List.getElem?_set_self hid, ho]; simpa using hl
    · rw [List.getElem?_set_ne hj]
  exact ⟨by simp, fun j _ h => ⟨by rw [hrl]; exact h, rfl⟩, fun j n _ h => ⟨n, by rw [hrl]; exact h, Nat.le_refl _, fun _ => rfl⟩⟩
theorem splice_length {α : Type} (cs : List α) (off : Nat) (vs : List α) (h : off + vs.length ≤ cs.length) : (splice cs off vs).length = cs.length := by
  unfold splice
  simp only [List.length_append, List.length_take, List.length_drop]
  omega
theorem mem_splice {α : Type} {cs : List α} {off : Nat} {vs : List α} {x : α} (h : x ∈ splice cs off vs) : x ∈ cs ∨ x ∈ vs := by
  unfold splice at h
  simp only [List.mem_append] at h
  rcases h with (h | h) | h
  · exact .inl (List.mem_of_mem_take h)
  · exact .inr h
  · exact .inl (List.mem_of_mem_drop h)
theorem InvX.write (X : InvX C s a w ι vis D) {id b c : Nat} {o o' : AO} (ho : s.σ[id]? = some o) (hi : ι id = some (b, c)) (hl : o'.len? = o.len?) {cs : Array Value} {ty : TypeId} {arr : Array Value}
    (hh : w.heap[b]? = some (.cells arr ty (0, 0)))
    (hr : RepOb C.yl ι (s.σ.set id o') (hp vis (w.setRow b cs)) o' c (.cells cs ty (0, 0))) :
    InvX C { s with σ := s.σ.set id o' } a (w.setRow b cs) ι vis D ∧ Up ι s.σ vis w ι (s.σ.set id o') vis (w.setRow b cs) := by
  have hid : id < s.σ.length := (List.getElem?_eq_some_iff.1 ho).1
  have g := Goes.set (ι := ι) ho hl
  have st := step_setRow w b cs
  have M := X.mem.turn hid o' st (fun b' e => by cases e; exact ⟨c, hi⟩) (fun _ _ => rfl) (fun b' c' h => .inl ⟨c', h⟩) g
    (by rw [hi]; exact ⟨_, setRow_heap w b arr cs ty (0, 0) hh, hr⟩)
  have hle := hp_step st fun b' hb => ⟨X.mem.visLt b' hb, fun e => by cases e; exact (X.mem.own id b c hi).2.2.1 hb⟩
  exact ⟨X.go M g hle, Up.of g hle st.size fun i b c h => .inl ⟨i, c, h⟩⟩
theorem store_ok (X : InvX C s a w ι vis D) {p e : E} {vp ve : Value} {t : TypeId} {ag : Bool} {k : Nat} {σ' : List AO} (ht : tyI C.P t = some (ag, k)) (hp : RepE C.yl ι s.σ (Ab.hp vis w) p vp)
    (he : RepE C.yl ι s.σ (Ab.hp vis w) e ve) (hs : store? s.σ k p e = some σ') :
    ∃ w', (Instr.storeAt t vp ve).run C.P w = .ok () w' ∧ InvX C { s with σ := σ' } a w' ι vis D ∧ Up ι s.σ vis w ι σ' vis w' := by
  unfold store? at hs
  split at hs
  · cases hs
  rename_i vs hvs
  obtain ⟨rv, ov⟩ := he.cells hvs
  split at hs
  rotate_left
  · cases hs
  rename_i hk
  have hve : ve.cells.size = k := by have := rv.length; simp at this; omega
  split at hs
  · rename_i id off
    split at hs
    · rename_i cs ho
      split at hs
      · rename_i hle
        cases hs
        unfold RepE at hp
        obtain ⟨_, _, b, c, hi, rfl⟩ := hp
        have hob := X.mem.objs id _ ho
        rw [hi] at hob
        obtain ⟨ob, hh, us, ty, rfl, r, o1⟩ := hob
        have hl := r.length
        have hrun := run_storeVar (P := C.P) (w := w) ht b off ve us.toArray ty hve hh (by simp; omega) ov
        obtain ⟨X', u⟩ := X.write (o' := .cells (splice cs off vs)) ho hi rfl hh (cs := (splice us off ve.cells.toList).toArray) (by
          refine ⟨_, ty, rfl, ?_, fun u hu => ?_⟩
          · have g : Goes ι s.σ ι (s.σ.set id (.cells (splice cs off vs))) := Goes.set ho rfl
            have hle' := hp_step (step_setRow w b (splice us off ve.cells.toList).toArray) fun b' hb => ⟨X.mem.visLt b' hb, fun e => by cases e; exact (X.mem.own id b c hi).2.2.1 hb⟩
            exact (r.splice off rv).mono g hle'
          · rcases mem_splice hu with h | h
            · exact o1 u h
            · exact ov u h)
        exact ⟨_, by simp [Instr.storeAt, Instr.sureAddr, hrun], X', u⟩
      · cases hs
    · cases hs
  · rename_i id n es i off
    split at hs
    · rename_i es' xs ho
      split at hs
      · rename_i hn
        obtain ⟨hn, rfl⟩ := hn
        split at hs
        · rename_i x hx
          unfold RepE at hp
          obtain ⟨_, _, _, _, hlive⟩ := hp
          obtain ⟨b, c, hi, rfl⟩ := hlive (by rw [rowLen_some ho, hn])
          have hob := X.mem.objs id _ ho
          rw [hi] at hob
          obtain ⟨ob, hh, us, rest, ty, rfl, r, hsz, h1, h2, h3, h4⟩ := hob
          obtain ⟨u, hu, ru⟩ := r.get hx
          have hsz1 := fun v hv => (hsz v hv).1
          have hul := (List.getElem?_eq_some_iff.1 hu).1
          have hfl := flat_length (vs := us) (es := es') hsz1
          have hus : u.cells.size = es' := hsz1 u (List.mem_of_getElem? hu)
          -- in both cases the new element
          have key : ∀ (x' : E) (u' : Value), off + k ≤ es' → u'.cells.toList = splice u.cells.toList off ve.cells.toList →
              (RepE C.yl ι s.σ (Ab.hp vis w) x' u') → ∃ w', (Instr.storeAt t (.pointer (some ⟨b, i * es' + off, none⟩)) ve).run C.P w = .ok () w' ∧
                InvX C { s with σ := s.σ.set id (.row es' (xs.set i x')) } a w' ι vis D ∧ Up ι s.σ vis w ι (s.σ.set id (.row es' (xs.set i x'))) vis w' := by
            intro x' u' hoff hu' rx'
            have hvl : ve.cells.toList.length = k := by simpa using hve
            have hmul : i * es' + es' ≤ us.length * es' := by rw [← Nat.succ_mul]; exact Nat.mul_le_mul_right _ hul
            have hrun := run_storeVar (P := C.P) (w := w) ht b (i * es' + off) ve _ ty hve hh (by simp only [List.size_toArray, List.length_append, hfl]; omega) ov
            have hsp := flat_splice (es := es') hsz1 hu (v' := u') (off := off) (us := ve.cells.toList) (by omega) hu' rest
            have hlr := r.length
            have hsz' : ∀ v ∈ us.set i u', v.cells.size = es' ∧ ∀ y ∈ v.cells.toList, One y := fun v hv => by
              rcases List.mem_or_eq_of_mem_set hv with h | rfl
              · exact hsz v h
              · refine ⟨?_, fun y hy => ?_⟩
                · have := congrArg List.length hu'
                  rw [splice_length _ _ _ (by simp [hvl, hus]; omega)] at this
                  simpa [hus] using this
                · rw [hu'] at hy
                  rcases mem_splice hy with h | h
                  · exact (hsz u (List.mem_of_getElem? hu)).2 y h
                  · exact ov y h
            have g : Goes ι s.σ ι (s.σ.set id (.row es' (xs.set i x'))) := Goes.set ho (by simp [AO.len?])
            obtain ⟨X', u'⟩ := X.write (o' := .row es' (xs.set i x')) ho hi (by simp [AO.len?]) hh (cs := ((us.set i u').flatMap (·.cells.toList) ++ rest).toArray) (by
              refine ⟨us.set i u', rest, ty, rfl, ?_, hsz', by simpa using h1, by simpa using h2, h3, h4⟩
              have hle' := hp_step (step_setRow w b ((us.set i u').flatMap (·.cells.toList) ++ rest).toArray) fun b' hb => ⟨X.mem.visLt b' hb, fun e => by cases e; exact (X.mem.own id b c hi).2.2.1 hb⟩
              exact (r.set i rx').mono g hle')
            refine ⟨_, ?_, X', u'⟩
            rw [← hsp]
            simp [Instr.storeAt, Instr.sureAddr, hrun]
          split at hs
          · rename_i hag
            split at hs
            · rename_i cs hcs
              split at hs
              · rename_i hle
                cases hs
                obtain ⟨rc, oc⟩ := ru.cells hcs
                obtain ⟨cu, rfl⟩ := isAgg_cells ru hag
                have hcu : cu.length = es' := by simpa [Value.cells] using hus
                have hcl := rc.length
                simp only [Value.cells] at rc oc hcl
                have hspl : RepEs C.yl ι s.σ (Ab.hp vis w) (splice cs off vs) (splice cu off ve.cells.toList) := by simpa using rc.splice off rv
                refine key (E.mk (splice cs off vs)) (.agg (splice cu off ve.cells.toList).toArray) (by omega) (by simp [Value.cells]) (RepE.mk hspl fun y hy => ?_)
                rcases mem_splice hy with h | h
                · exact oc y (by simpa using h)
                · exact ov y h
              · cases hs
            · cases hs
          · split at hs
            · rename_i hoff
              obtain ⟨rfl, rfl, _⟩ := hoff
              cases hs
              refine key e ve (by omega) ?_ he
              unfold splice
              have hvl : ve.cells.toList.length = k := by simpa using hve
              rw [List.take_zero, List.nil_append, Nat.zero_add, hvl, List.drop_eq_nil_of_le (by simp [hus]), List.append_nil]
            · cases hs
        · cases hs
      · cases hs
    · cases hs
  · cases hs
end
end Go.Ab
