/- Proved here: laws that the statements need (AbG, AbH). No conditions but those that each law states. -/
import Derived.Test.YtbhbbjngndmnmaaGreatDoorFC
import Derived.Laws.Small
set_option linter.unusedSimpArgs false
set_option linter.unusedVariables false
namespace Go.Ab
section
variable {C : Cx} {s : St} {a : Act} {w : World} {ι : Pl} {vis D : Nat → Prop}
theorem op_bin (X : InvX C s a w ι vis D) {o : Oper} {op : BinOp} {t u : TypeId} {x y : Operand} {x' y' : Opd} (ho : o.op = .binOp op t x y u) (hx : cOpd C.P x = some x') (hy : cOpd C.P y = some y') :
    ResOK C s o a w ι vis D ((AOp.bin op x' y').ex s.env s.σ) := by
  simp only [AOp.ex]
  have rx := ev_ok X hx
  have ry := ev_ok X hy
  split
  · rename_i l m h1 h2
    rw [h1] at rx
    rw [h2] at ry
    unfold RepE RepT at rx ry
    split
    · rename_i v hv
      refine gives_pure X (v := v) ?_ (by unfold RepE RepT; rfl)
      unfold execOp
      simp only [ho]
      rw [rx, ry]
      have := binV_ok (P := C.P) (w := w) (t := t) (x := x) (y := y) hv
      simp only [Sem.run_bind, this, Result.andThen_ok, Sem.run_pure] at this ⊢
    · trivial
  · trivial
theorem run_eqnil {P : Program} {w : World} {t : TypeId} {ms : Array (String × TypeId)} (hb : P.underlying t = some (.interface ms)) (n : Nat) {v : Value} {b : Bool} (hv : (v = .nilIface ∧ b = true) ∨ ∃ ty u, v = .iface ty u ∧ b = false) :
    (Op.equalIn (n + 1) t v .nilIface).run P w = .ok b w := by
  rcases hv with ⟨rfl, rfl⟩ | ⟨ty, u, rfl, rfl⟩
  · simp [Op.equalIn, run_underlying hb, Result.andThen]
  · simp [Op.equalIn, run_underlying hb, Result.andThen]
theorem op_nilcmp (X : InvX C s a w ι vis D) {o : Oper} {op : BinOp} {neg : Bool} {t u : TypeId} {x : Operand} {x' : Opd} (ho : o.op = .binOp op t x (.const .nilIface) u) (hb : ∃ ms, C.P.underlying t = some (.interface ms)) (hn : op = if neg then .neq else .eql)
    (hx : cOpd C.P x = some x') : ResOK C s o a w ι vis D ((AOp.nilcmp neg x').ex s.env s.σ) := by
  obtain ⟨ms, hb⟩ := hb
  simp only [AOp.ex]
  have rx := ev_ok X hx
  have key : ∀ (v : Value) (b : Bool), (Op.equal t v .nilIface).run C.P w = .ok b w → eqGuard op t x (.const .nilIface) v .nilIface = pure () → a.eval x = v → (∀ k n, v ≠ .int k n) → (∀ k n, v ≠ .float k n) → (∀ k n m, v ≠ .complex k n m) → (∀ s, v ≠ .string s) →
      ResOK C s o a w ι vis D (.ok (.t (.lit (.bool (if neg then !b else b)))) s.σ) := fun v b he hg hv n1 n2 n3 n4 => by
    refine gives_pure X (v := .bool (if neg then !b else b)) ?_ (by unfold RepE RepT; rfl)
    have hev : a.eval (.const .nilIface) = .nilIface := rfl
    unfold execOp
    simp only [ho, hv, hev]
    have h2 : (binOp op t v .nilIface).run C.P w = .ok (.bool (if neg then !b else b)) w := by
      subst hn
      cases neg
      · unfold binOp
        cases v <;> simp_all
      · unfold binOp
        cases v <;> simp_all
    simp [Sem.run_bind, hg, h2]
  split
  · rename_i ty y h
    rw [h] at rx
    unfold RepE RepT at rx
    obtain ⟨u, hu, _⟩ := rx
    have := key (.iface ty u) false (run_eqnil hb 9999 (.inr ⟨ty, u, rfl, rfl⟩)) (by cases op <;> rfl) hu (by simp) (by simp) (by simp) (by simp)
    cases neg <;> simpa using this
  · rename_i h
    rw [h] at rx
    unfold RepE RepT at rx
    have := key .nilIface true (run_eqnil hb 9999 (.inl ⟨rfl, rfl⟩)) (eqGuard_nil_constR _ _ _ _) rx (by simp) (by simp) (by simp) (by simp)
    cases neg <;> simpa using this
  · trivial
theorem op_tass (X : InvX C s a w ι vis D) {o : Oper} {ok : Bool} {t u : TypeId} {x : Operand} {x' : Opd} {d : TypeDesc} (ho : o.op = .typeAssert x u t ok) (hd : C.P.underlying t = some d) (hne : ∀ ms, d ≠ .interface ms) (hx : cOpd C.P x = some x') :
    ResOK C s o a w ι vis D ((AOp.tass t ok x').ex s.env s.σ) := by
  simp only [AOp.ex]
  have rx := ev_ok X hx
  split
  · rename_i ty y h
    rw [h] at rx
    unfold RepE RepT at rx
    obtain ⟨v, hv, r⟩ := rx
    split
    · rename_i e
      subst e
      refine gives_pure X (v := if ok then .tuple #[v, .bool true] else v) ?_ ?_
      · unfold execOp
        simp only [ho, hv]
        cases d <;> first | exact absurd rfl (hne _) | (simp [Instr.typeAssert, run_underlying hd, Result.andThen])
      · cases ok
        · simp only [Bool.false_eq_true, if_false]; unfold RepE; exact r
        · simp only [if_true]
          unfold RepE
          refine ⟨[v, .bool true], rfl, ?_⟩
          unfold RepEs
          refine ⟨v, [.bool true], rfl, by unfold RepE; exact r, ?_⟩
          unfold RepEs
          exact ⟨.bool true, [], rfl, by unfold RepE RepT; rfl, by unfold RepEs; rfl⟩
    · trivial
  · trivial
theorem op_eqb (X : InvX C s a w ι vis D) {o : Oper} {op : BinOp} {neg : Bool} {t u : TypeId} {x y : Operand} {x' y' : Opd} (ho : o.op = .binOp op t x y u) (hb : C.P.underlying t = some .bool) (hn : op = if neg then .neq else .eql)
    (hx : cOpd C.P x = some x') (hy : cOpd C.P y = some y') : ResOK C s o a w ι vis D ((AOp.eqb neg x' y').ex s.env s.σ) := by
  simp only [AOp.ex]
  have rx := ev_ok X hx
  have ry := ev_ok X hy
  split
  · rename_i l m h1 h2
    rw [h1] at rx
    rw [h2] at ry
    unfold RepE RepT at rx ry
    refine gives_pure X (v := .bool (if neg then !(l == m) else l == m)) ?_ (by unfold RepE RepT; rfl)
    unfold execOp
    simp only [ho]
    rw [rx, ry]
    cases neg
    · simp only [Bool.false_eq_true, if_false] at hn
      subst hn
      simp [eqGuard_at_bool, run_eql_bool w t l m hb]
    · simp only [if_true] at hn
      subst hn
      simp [eqGuard_at_bool, run_neq_bool w t l m hb]
  · trivial
theorem op_un (X : InvX C s a w ι vis D) {o : Oper} {op : UnOp} {t : TypeId} {x : Operand} {x' : Opd} (ho : o.op = .unOp op t x) (hx : cOpd C.P x = some x') : ResOK C s o a w ι vis D ((AOp.un op x').ex s.env s.σ) := by
  simp only [AOp.ex]
  have rx := ev_ok X hx
  split
  · rename_i l h1
    rw [h1] at rx
    unfold RepE RepT at rx
    split
    · rename_i v hv
      refine gives_pure X (v := v) ?_ (by unfold RepE RepT; rfl)
      unfold execOp
      simp only [ho]
      rw [rx]
      simp [unV_ok hv]
    · trivial
  · trivial
theorem op_conv (X : InvX C s a w ι vis D) {o : Oper} {t u : TypeId} {k k' : IntKind} {x : Operand} {x' : Opd} (ho : o.op = .convert t u x) (ht : C.P.underlying t = some (.int k')) (hu : C.P.underlying u = some (.int k)) (hx : cOpd C.P x = some x') :
    ResOK C s o a w ι vis D ((AOp.conv k x').ex s.env s.σ) := by
  simp only [AOp.ex]
  have rx := ev_ok X hx
  split
  · rename_i q n h1
    rw [h1] at rx
    unfold RepE RepT at rx
    refine gives_pure X (v := .int k (k.wrap n)) ?_ (by unfold RepE RepT; rfl)
    unfold execOp
    simp only [ho]
    rw [rx]
    simp [convert, run_underlying ht, run_underlying hu, Conv.intToInt]
  · trivial
theorem fieldAtI_spec {P : Program} {t : TypeId} {f off k : Nat} {ag : Bool} (h : fieldAtI P t f = some (off, ag, k)) : ∃ fs fd, P.underlying t = some (.struct fs) ∧ fs[f]? = some fd ∧ fd.offset = off ∧ tyI P fd.type = some (ag, k) := by
  unfold fieldAtI at h
  split at h
  · rename_i fs h1
    split at h
    · rename_i fd h2
      split at h
      · rename_i ag' k' h3
        cases h
        exact ⟨fs, fd, h1, h2, rfl, h3⟩
      · cases h
    · cases h
  · cases h
theorem op_faddr (X : InvX C s a w ι vis D) {o : Oper} {t : TypeId} {f off k : Nat} {ag : Bool} {x : Operand} {x' : Opd} (ho : o.op = .fieldAddr t x f) (hf : fieldAtI C.P t f = some (off, ag, k)) (hk : k ≠ 0) (hx : cOpd C.P x = some x') :
    ResOK C s o a w ι vis D ((AOp.faddr off x').ex s.env s.σ) := by
  obtain ⟨fs, fd, h1, h2, rfl, h3⟩ := fieldAtI_spec hf
  have rx := ev_ok X hx
  have run : ∀ b q, a.eval x = .pointer (some ⟨b, q, none⟩) → (execOp a.eval o).run C.P w = .ok (.value (.pointer (some ⟨b, q + fd.offset, none⟩))) w := fun b q e => by
    unfold execOp
    simp only [ho]
    rw [e]
    simp [Instr.fieldAt, run_underlying h1, h2, Instr.sureAddr, fieldPlace, (tyI_spec h3 w).2, hk, addr_add]
  simp only [AOp.ex]
  split
  · rename_i id q h
    rw [h] at rx
    unfold RepE at rx
    obtain ⟨g1, g2, b, c, g3, e⟩ := rx
    exact gives_pure X (run b q e) (by unfold RepE; exact ⟨g1, g2, b, c, g3, rfl⟩)
  · rename_i id n es i q h
    rw [h] at rx
    unfold RepE at rx
    obtain ⟨g1, g2, g3, g4, g5⟩ := rx
    split
    · rename_i hlive
      obtain ⟨b, c, g6, e⟩ := g5 hlive
      exact gives_pure X (run b _ e) (by unfold RepE; exact ⟨g1, g2, g3, rfl, fun _ => ⟨b, c, g6, by rw [Nat.add_assoc]⟩⟩)
    · trivial
  · rename_i y q h
    rw [h] at rx
    unfold RepE RepT at rx
    obtain ⟨b, r, v, e, g1, g2, g3⟩ := rx
    exact gives_pure X (run b _ e) (by unfold RepE RepT; exact ⟨b, r, v, by rw [Nat.add_assoc], g1, g2, g3⟩)
  · rename_i cs q h
    rw [h] at rx
    unfold RepE at rx
    obtain ⟨b, us, e, g1, g2, g3⟩ := rx
    exact gives_pure X (run b _ e) (by unfold RepE; exact ⟨b, us, rfl, g1, g2, g3⟩)
  · trivial
theorem op_field (X : InvX C s a w ι vis D) {o : Oper} {t : TypeId} {f off k : Nat} {ag : Bool} {x : Operand} {x' : Opd} (ho : o.op = .field t x f) (hf : fieldAtI C.P t f = some (off, ag, k)) (hx : cOpd C.P x = some x') :
    ResOK C s o a w ι vis D ((AOp.field off ag k x').ex s.env s.σ) := by
  obtain ⟨fs, fd, h1, h2, rfl, h3⟩ := fieldAtI_spec hf
  have rx := ev_ok X hx
  have key : ∀ (cs : List E) (us : List Value) (e : E), a.eval x = .agg us.toArray → RepEs C.yl ι s.σ (hp vis w) cs us → (∀ u ∈ us, One u) → rd ag k cs fd.offset = some e → ResOK C s o a w ι vis D (.ok e s.σ) := by
    intro cs us e hv r o1 he
    obtain ⟨t1, t2⟩ := tyI_spec h3 w
    have hl := r.length
    cases ag with
    | true =>
      simp only [rd, if_true] at he
      split at he
      · rename_i hle
        cases he
        refine gives_pure X (v := .agg ((us.drop fd.offset).take k).toArray) ?_ (RepE.mk ((r.drop _).take _) fun u hu => o1 u (List.mem_of_mem_drop (List.mem_of_mem_take hu)))
        unfold execOp
        simp only [ho]
        rw [hv]
        simp only [Instr.field, part, asAgg, Sem.run_bind, run_underlying h1, Result.andThen_ok, h2, Sem.run_pure, t1, t2, if_true]
        rw [List.extract_toArray, List.extract_eq_take_drop, Nat.add_sub_cancel_left]
      · cases he
    | false =>
      simp only [rd, if_false, Bool.false_eq_true] at he
      obtain ⟨v, hv', rv⟩ := r.get he
      refine gives_pure X (v := v) ?_ rv
      unfold execOp
      simp only [ho]
      rw [hv]
      simp [Instr.field, part, asAgg, run_underlying h1, h2, t1, hv']
  simp only [AOp.ex]
  split
  · rename_i cs h
    rw [h] at rx
    unfold RepE RepT at rx
    obtain ⟨us, e, r, o1⟩ := rx
    cases hr : rdT ag k cs fd.offset with
    | none => simp only [Option.map_none, ofO]; trivial
    | some y =>
      simp only [Option.map_some, ofO]
      exact key (cs.map .t) us (.t y) e (RepEs.map_t r) o1 (by rw [← rdT_rd, hr]; rfl)
  · rename_i cs h
    rw [h] at rx
    unfold RepE at rx
    obtain ⟨us, e, r, o1⟩ := rx
    cases hr : rd ag k cs fd.offset with
    | none => trivial
    | some y => exact key cs us y e r o1 hr
  · trivial
theorem op_aidx (X : InvX C s a w ι vis D) {o : Oper} {t el : TypeId} {sz k : Nat} {ag : Bool} {x i : Operand} {x' i' : Opd} (ho : o.op = .index t x i) (ht : C.P.underlying t = some (.array sz el)) (hk : tyI C.P el = some (ag, k)) (hx : cOpd C.P x = some x') (hi : cOpd C.P i = some i') :
    ResOK C s o a w ι vis D ((AOp.aidx sz ag k x' i').ex s.env s.σ) := by
  have rx := ev_ok X hx
  have ri := ev_ok X hi
  have key : ∀ (cs : List E) (us : List Value) (e : E) (kd : IntKind) (n : Int), 0 ≤ n ∧ n < sz → a.eval i = .int kd n → a.eval x = .agg us.toArray → RepEs C.yl ι s.σ (hp vis w) cs us → (∀ u ∈ us, One u) → rd ag k cs (n.toNat * k) = some e → ResOK C s o a w ι vis D (.ok e s.σ) := by
    intro cs us e kd n hn hiv hv r o1 he
    obtain ⟨t1, t2⟩ := tyI_spec hk w
    have hl := r.length
    cases ag with
    | true =>
      simp only [rd, if_true] at he
      split at he
      · rename_i hle
        cases he
        refine gives_pure X (v := .agg ((us.drop (n.toNat * k)).take k).toArray) ?_ (RepE.mk ((r.drop _).take _) fun u hu => o1 u (List.mem_of_mem_drop (List.mem_of_mem_take hu)))
        unfold execOp
        simp only [ho]
        rw [hv, hiv]
        simp only [Instr.index, asIntOf, part, Sem.run_bind, run_underlying ht, Result.andThen_ok, Sem.run_pure, hn, and_self, if_true, t1, t2]
        rw [List.extract_toArray, List.extract_eq_take_drop, Nat.add_sub_cancel_left]
      · cases he
    | false =>
      simp only [rd, if_false, Bool.false_eq_true] at he
      obtain ⟨v, hv', rv⟩ := r.get he
      refine gives_pure X (v := v) ?_ rv
      unfold execOp
      simp only [ho]
      rw [hv, hiv]
      simp [Instr.index, asIntOf, part, run_underlying ht, hn, t1, t2, hv']
  simp only [AOp.ex]
  split
  · rename_i cs kd n h h'
    intro hn
    rw [h] at rx
    rw [h'] at ri
    unfold RepE RepT at rx ri
    obtain ⟨us, e, r, o1⟩ := rx
    cases hr : rdT ag k cs (n.toNat * k) with
    | none => simp only [Option.map_none, ofO]; trivial
    | some y =>
      simp only [Option.map_some, ofO]
      exact key (cs.map .t) us (.t y) kd n hn ri e (RepEs.map_t r) o1 (by rw [← rdT_rd, hr]; rfl)
  · rename_i cs kd n h h'
    intro hn
    rw [h] at rx
    rw [h'] at ri
    unfold RepE at rx ri
    unfold RepT at ri
    obtain ⟨us, e, r, o1⟩ := rx
    cases hr : rd ag k cs (n.toNat * k) with
    | none => trivial
    | some y => exact key cs us y kd n hn ri e r o1 hr
  · trivial
theorem op_iaddr (X : InvX C s a w ι vis D) {o : Oper} {t el : TypeId} {k : Nat} {ag : Bool} {x i : Operand} {x' i' : Opd} (ho : o.op = .indexAddr t x i) (ht : C.P.underlying t = some (.slice el)) (hk : tyI C.P el = some (ag, k))
    (hx : cOpd C.P x = some x') (hi : cOpd C.P i = some i') : ResOK C s o a w ι vis D ((AOp.iaddr k x' i').ex s.env s.σ) := by
  have rx := ev_ok X hx
  have ri := ev_ok X hi
  have run : ∀ b q len cap kk n, a.eval x = .slice (some ⟨b, q, none⟩) len cap → a.eval i = .int kk n → 0 ≤ n → n < len → (execOp a.eval o).run C.P w = .ok (.value (.pointer (some ⟨b, q + n.toNat * k, none⟩))) w := by
    intro b q len cap kk n e1 e2 h0 h1
    unfold execOp
    simp only [ho]
    rw [e1, e2]
    simp [Instr.indexAt, asIntOf, run_underlying ht, h0, h1, (tyI_spec hk w).2, addr_add]
  simp only [AOp.ex]
  split
  · rename_i es' xs q n h1 h2
    rw [h1] at rx
    rw [h2] at ri
    unfold RepE RepT at rx ri
    split
    · rename_i hc
      obtain ⟨rfl, hn⟩ := hc
      split
      · rename_i y hy
        obtain ⟨ad, len, c, e, hl, _, hr⟩ := rx
        have hlt := (List.getElem?_eq_some_iff.1 hy).1
        rcases hr with ⟨_, h0, _⟩ | ⟨b, p, rfl, hrow⟩
        · omega
        · refine gives_pure X (run b p len c q n e ri hn (by omega)) ?_
          unfold RepE RepT
          have : ∀ (xs : List T) (p j : Nat) (y : T), RepRow (hp vis w) es' xs b p → xs[j]? = some y → ∃ v, RepT (hp vis w) y v ∧ (∀ u ∈ v.cells.toList, One u) ∧ Lies (hp vis w) b (p + j * es') v.cells.toList := by
            intro xs
            induction xs with
            | nil => intro p j y _ h; simp at h
            | cons x0 xs ih =>
              intro p j y hr hj
              unfold RepRow at hr
              obtain ⟨⟨v, r1, r2, r3, r4⟩, hr'⟩ := hr
              cases j with
              | zero => simp at hj; subst hj; exact ⟨v, r1, r3, by simpa using r4⟩
              | succ j =>
                obtain ⟨v', q1, q2, q3⟩ := ih (p + es') j y hr' (by simpa using hj)
                exact ⟨v', q1, q2, by rw [Nat.add_mul, Nat.one_mul, Nat.add_comm (j * es'), ← Nat.add_assoc]; exact q3⟩
          obtain ⟨v, q1, q2, q3⟩ := this xs p n.toNat y hrow hy
          exact ⟨b, p + n.toNat * es', v, rfl, q1, q2, q3⟩
      · trivial
    · trivial
  · rename_i id m q n h1 h2
    rw [h1] at rx
    rw [h2] at ri
    unfold RepE at rx
    unfold RepE RepT at ri
    split
    · rename_i es' xs ho'
      split
      · rename_i hm
        obtain ⟨rfl, rfl⟩ := hm
        intro hn
        obtain ⟨g1, g2, g3, g4, g5⟩ := rx
        rcases g5 (rowLen_some ho') with ⟨b, c, g6, e⟩ | ⟨_, h0, _⟩
        · refine gives_pure X (run b 0 _ c q n e ri hn.1 hn.2) ?_
          unfold RepE
          exact ⟨g1, g2, g3, rfl, fun _ => ⟨b, c, g6, by simp⟩⟩
        · omega
      · trivial
    · trivial
  · rename_i id m es'' lo ln q n h1 h2
    rw [h1] at rx
    rw [h2] at ri
    unfold RepE at rx
    unfold RepE RepT at ri
    split
    · rename_i es' xs ho'
      split
      · rename_i hm
        obtain ⟨rfl, he1, he2⟩ := hm
        subst he1
        have he3 := he2.symm
        subst he3
        intro hn
        obtain ⟨g1, g2, g3, g4, g5⟩ := rx
        obtain ⟨hle, g6⟩ := g5 (rowLen_some ho')
        rcases g6 with ⟨b, c, o', g6, e, g7, _⟩ | ⟨_, h0, _⟩
        · have g8 : o' = lo * es' := g7.resolve_right (by omega)
          subst g8
          refine gives_pure X (run b _ _ _ q n e ri hn.1 hn.2) ?_
          unfold RepE
          exact ⟨g1, g2, g3, rfl, fun _ => ⟨b, c, g6, by rw [Nat.add_mul, Nat.add_zero]⟩⟩
        · omega
      · trivial
    · trivial
  · trivial
theorem op_iaddrA (X : InvX C s a w ι vis D) {o : Oper} {t el : TypeId} {sz k : Nat} {ag : Bool} {x i : Operand} {x' i' : Opd} (ho : o.op = .indexAddr t x i) (ht : C.P.underlying t = some (.array sz el)) (hk : tyI C.P el = some (ag, k))
    (hx : cOpd C.P x = some x') (hi : cOpd C.P i = some i') : ResOK C s o a w ι vis D ((AOp.iaddrA sz k x' i').ex s.env s.σ) := by
  have rx := ev_ok X hx
  have ri := ev_ok X hi
  have run : ∀ b q kk n, a.eval x = .pointer (some ⟨b, q, none⟩) → a.eval i = .int kk n → 0 ≤ n ∧ n < sz → (execOp a.eval o).run C.P w = .ok (.value (.pointer (some ⟨b, q + n.toNat * k, none⟩))) w := by
    intro b q kk n e1 e2 h0
    unfold execOp
    simp only [ho]
    rw [e1, e2]
    simp [Instr.indexAt, asIntOf, run_underlying ht, h0, Instr.sureAddr, (tyI_spec hk w).2, addr_add]
  simp only [AOp.ex]
  split
  · rename_i id q kk n h1 h2
    rw [h1] at rx
    rw [h2] at ri
    unfold RepE at rx
    unfold RepE RepT at ri
    intro hn
    obtain ⟨g1, g2, b, c, g3, e⟩ := rx
    exact gives_pure X (run b q kk n e ri hn) (by unfold RepE; exact ⟨g1, g2, b, c, g3, rfl⟩)
  · rename_i id m es' j q kk n h1 h2
    rw [h1] at rx
    rw [h2] at ri
    unfold RepE at rx
    unfold RepE RepT at ri
    intro hn
    split
    · rename_i hlive
      obtain ⟨g1, g2, g3, g4, g5⟩ := rx
      obtain ⟨b, c, g6, e⟩ := g5 hlive
      exact gives_pure X (run b _ kk n e ri hn) (by unfold RepE; exact ⟨g1, g2, g3, rfl, fun _ => ⟨b, c, g6, by rw [Nat.add_assoc]⟩⟩)
    · trivial
  · rename_i y q kk n h1 h2
    rw [h1] at rx
    rw [h2] at ri
    unfold RepE RepT at rx ri
    intro hn
    obtain ⟨b, r, v, e, g1, g2, g3⟩ := rx
    exact gives_pure X (run b _ kk n e ri hn) (by unfold RepE RepT; exact ⟨b, r, v, by rw [Nat.add_assoc], g1, g2, g3⟩)
  · rename_i y q kk n h1 h2
    rw [h1] at rx
    rw [h2] at ri
    unfold RepE at rx
    unfold RepE RepT at ri
    intro hn
    obtain ⟨b, us, e, g1, g2, g3⟩ := rx
    exact gives_pure X (run b _ kk n e ri hn) (by unfold RepE; exact ⟨b, us, rfl, g1, g2, g3⟩)
  · trivial
end
end Go.Ab
namespace Go.Ab
section
variable {C : Cx} {s : St} {a : Act} {w : World} {ι : Pl} {vis D : Nat → Prop}
theorem amap {α β : Type} (f : α → β) (xs : Array α) : xs.map f = (xs.toList.map f).toArray := by rw [← Array.toList_map, Array.toArray_toList]
theorem fill_step (cells : Array Value) (v : Value) (off : Nat) (h : off + v.cells.size ≤ cells.size) :
    (v.cells.zipIdx.foldl (fun cs (c, j) => cs.setIfInBounds (off + j) c) cells).toList = splice cells.toList off v.cells.toList := by
  have key : ∀ (l : List Value) (j : Nat) (cs : Array Value), off + j + l.length ≤ cs.size →
      ((l.zipIdx j).foldl (fun cs (c, j) => cs.setIfInBounds (off + j) c) cs).toList = splice cs.toList (off + j) l := by
    intro l
    induction l with
    | nil => intro j cs _; simp [splice]
    | cons x l ih =>
      intro j cs hl
      simp only [List.length_cons] at hl
      simp only [List.zipIdx_cons, List.foldl_cons]
      rw [ih (j + 1) _ (by simp; omega)]
      have e := list_seg_step cs.toList (off + j) x l (by simp; omega)
      simp only [Array.toList_setIfInBounds]
      unfold splice
      simpa [Nat.add_assoc] using e
  have := key v.cells.toList 0 cells (by simpa using h)
  rw [← Array.foldl_toList, Array.toList_zipIdx]
  simpa using this
theorem fill_ok (X : InvX C s a w ι vis D) {place : Nat → Option (Nat × Nat)} : ∀ {ps : List (Nat × Operand)} {qs : List (Nat × Nat × Opd)} (_ : cParts C.P place ps = some qs) {cs cs' : List E} {us : List Value} (_ : fillE s.env qs cs = some cs')
    (_ : RepEs C.yl ι s.σ (hp vis w) cs us) (_ : ∀ u ∈ us, One u),
    ∃ us', Instr.fill place us.toArray (ps.map fun (i, x) => (i, a.eval x)) = some us'.toArray ∧ RepEs C.yl ι s.σ (hp vis w) cs' us' ∧ ∀ u ∈ us', One u
  | [], qs, h, cs, cs', us, hf, r, o1 => by
    simp only [cParts] at h
    cases h
    simp only [fillE] at hf
    cases hf
    exact ⟨us, rfl, r, o1⟩
  | (i, x) :: ps, qs, h, cs, cs', us, hf, r, o1 => by
    simp only [cParts] at h
    split at h
    · rename_i off k y ys h1 h2 h3
      cases h
      simp only [fillE] at hf
      split at hf
      · rename_i vs hvs
        split at hf
        · rename_i hc
          obtain ⟨hk, hle⟩ := hc
          obtain ⟨rv, ov⟩ := (ev_ok X h2).cells hvs
          have hl := r.length
          have hvl := rv.length
          have hsz : (a.eval x).cells.size = k := by simpa [hk] using hvl.symm
          obtain ⟨us', e, r', o'⟩ := fill_ok X h3 hf (r.splice off rv) (fun u hu => by rcases mem_splice hu with h | h; exact o1 u h; exact ov u h)
          refine ⟨us', ?_, r', o'⟩
          simp only [List.map_cons, Instr.fill, h1]
          rw [if_neg (by simp [hsz]; omega)]
          have hst := fill_step us.toArray (a.eval x) off (by simp [hsz]; omega)
          simp only at hst
          rw [← e, ← hst]
        · cases hf
      · cases hf
    · cases h
theorem op_build (X : InvX C s a w ι vis D) {o : Oper} {t : TypeId} {ps : Array (Nat × Operand)} {z : List Value} {qs : List (Nat × Nat × Opd)} (ho : o.op = .build t ps)
    (hz : zOf C.P t = some z) (place : Nat → Option (Nat × Nat)) (hq : cParts C.P place ps.toList = some qs)
    (hb : ∀ i v, C.P.info? t = some i → i.zero = some v → C.P.built t (ps.toList.map fun (i, x) => (i, a.eval x)) = Instr.fill place v.cells (ps.toList.map fun (i, x) => (i, a.eval x))) :
    ResOK C s o a w ι vis D ((AOp.build z qs).ex s.env s.σ) := by
  obtain ⟨i, v, hi, hv, rfl, o1⟩ := zOf_spec hz
  simp only [AOp.ex]
  split
  · rename_i cs hcs
    obtain ⟨us', e, r', o'⟩ := fill_ok X hq hcs (zlist_rep v.cells.toList) o1
    refine gives_pure X (v := .agg us'.toArray) ?_ (RepE.mk r' o')
    have hr := run_build (P := C.P) w t (ps.map fun (i, x) => (i, a.eval x)) us'.toArray (by rw [Array.toList_map, hb i v hi hv]; exact e)
    unfold execOp
    simp only [ho]
    simp only at hr
    simp [hr]
  · trivial
theorem op_nilck (X : InvX C s a w ι vis D) {o : Oper} {x : Operand} {x' : Opd} (ho : o.op = .nilCheck x) (hx : cOpd C.P x = some x') : ResOK C s o a w ι vis D ((AOp.nilck x').ex s.env s.σ) := by
  have rx := ev_ok X hx
  have run : ∀ ad, a.eval x = .pointer (some ad) → (execOp a.eval o).run C.P w = .ok (.value (.pointer (some ad))) w := fun ad e => by
    unfold execOp; simp only [ho, e]; rfl
  have runf : ∀ n fs cs, a.eval x = .func (.func n) fs cs → (execOp a.eval o).run C.P w = .ok (.value (.func (.func n) fs cs)) w := fun n fs cs e => by
    unfold execOp; simp only [ho, e]; rfl
  simp only [AOp.ex]
  split
  · rename_i h
    rw [h] at rx
    have rx' := rx
    unfold RepE at rx'
    obtain ⟨_, _, b, c, _, e⟩ := rx'
    exact gives_pure X (run _ e) (by rw [← e]; exact rx)
  · rename_i h
    split
    · rename_i hl
      rw [h] at rx
      have rx' := rx
      unfold RepE at rx'
      obtain ⟨_, _, _, _, g⟩ := rx'
      obtain ⟨b, c, _, e⟩ := g hl
      exact gives_pure X (run _ e) (by rw [← e]; exact rx)
    · trivial
  · rename_i h
    rw [h] at rx
    have rx' := rx
    unfold RepE RepT at rx'
    obtain ⟨b, q, v, e, _⟩ := rx'
    exact gives_pure X (run _ e) (by rw [← e]; exact rx)
  · rename_i h
    rw [h] at rx
    have rx' := rx
    unfold RepE at rx'
    obtain ⟨b, us, e, _⟩ := rx'
    exact gives_pure X (run _ e) (by rw [← e]; exact rx)
  · rename_i f fs cs h
    split
    · rw [h] at rx
      have rx' := rx
      unfold RepE at rx'
      obtain ⟨us, vs, e, _⟩ := rx'
      exact gives_pure X (runf _ _ _ e) (by rw [← e]; exact rx)
    · trivial
  · rename_i h
    rw [h] at rx
    have rx' := rx
    unfold RepE RepT at rx'
    obtain ⟨us, vs, e, _⟩ := rx'
    exact gives_pure X (runf _ _ _ e) (by rw [← e]; exact rx)
  · trivial
theorem op_mkif (X : InvX C s a w ι vis D) {o : Oper} {t : TypeId} {d : TypeDesc} {x : Operand} {x' : Opd} (ho : o.op = .makeInterface t x) (ht : C.P.underlying t = some d) (hd : ∀ ms, d ≠ .interface ms) (hx : cOpd C.P x = some x') :
    ResOK C s o a w ι vis D ((AOp.mkif t x').ex s.env s.σ) := by
  have rx := ev_ok X hx
  have run : (execOp a.eval o).run C.P w = .ok (.value (.iface t (a.eval x))) w := by
    unfold execOp
    simp only [ho]
    cases d <;> first
      | (simp [Instr.makeInterface, run_underlying ht]; done)
      | (rename_i ms; exact absurd rfl (hd ms))
  simp only [AOp.ex]
  split
  · trivial
  · exact gives_pure X run rx.mkIface
theorem op_mkfn (X : InvX C s a w ι vis D) {o : Oper} {f : Fn} {fs cs : Array Operand} {fs' cs' : List Opd} (ho : o.op = .makeFunc f fs cs) (h1 : cOpds C.P fs.toList = some fs') (h2 : cOpds C.P cs.toList = some cs') :
    ResOK C s o a w ι vis D ((AOp.mkfn f fs' cs').ex s.env s.σ) := by
  refine gives_pure X (v := .func f (fs.toList.map a.eval).toArray (cs.toList.map a.eval).toArray) ?_ (RepE.mkFn (evs_ok X h1) (evs_ok X h2))
  unfold execOp
  simp only [ho, amap]
  simp [Instr.makeFunc]
theorem op_ext (X : InvX C s a w ι vis D) {o : Oper} {x : Operand} {i : Nat} {x' : Opd} (ho : o.op = .extract x i) (hx : cOpd C.P x = some x') : ResOK C s o a w ι vis D ((AOp.ext x' i).ex s.env s.σ) := by
  have rx := ev_ok X hx
  simp only [AOp.ex]
  split
  · rename_i es h
    rw [h] at rx
    unfold RepE at rx
    obtain ⟨us, e, r⟩ := rx
    cases hi : es[i]? with
    | none => trivial
    | some y =>
      obtain ⟨v, hv, rv⟩ := r.get hi
      refine gives_pure X (v := v) ?_ rv
      unfold execOp
      simp only [ho]
      rw [e]
      simp [Instr.extract, hv]
  · trivial
theorem op_pan (X : InvX C s a w ι vis D) {o : Oper} {x : Operand} {x' : Opd} (ho : o.op = .panic x) (hx : cOpd C.P x = some x') : ResOK C s o a w ι vis D ((AOp.pan x').ex s.env s.σ) := by
  have rx := ev_ok X hx
  simp only [AOp.ex]
  split
  · rename_i t y h
    rw [h] at rx
    unfold RepE at rx
    have rx' := rx
    unfold RepT at rx'
    obtain ⟨v, e, r⟩ := rx'
    refine ⟨.iface t v, ?_, by rw [← e]; exact rx⟩
    unfold execOp
    simp only [ho]
    rw [e]
    simp [Instr.panic]
  · trivial
theorem run_builtin {b : Builtin} {o : Oper} {c : Call} (ho : o.op = .call c) (hb : c.callee = .builtin b) :
    ∃ cs, (execOp a.eval o).run C.P w = (builtin b c.argTypes o.type cs (c.args.map a.eval)).run C.P w := by
  unfold execOp
  simp only [ho, resolve, hb, invoke, Sem.run_bind, Sem.run_pure, Result.andThen_ok]
  exact ⟨_, rfl⟩
theorem op_len (X : InvX C s a w ι vis D) {o : Oper} {c : Call} {t e : TypeId} {ts : List TypeId} {x : Operand} {x' : Opd} (ho : o.op = .call c) (hb : c.callee = .builtin .len) (ha : c.args.toList = [x]) (hts : c.argTypes.toList = t :: ts)
    (ht : C.P.underlying t = some (.slice e)) (hx : cOpd C.P x = some x') : ResOK C s o a w ι vis D ((AOp.len x').ex s.env s.σ) := by
  have rx := ev_ok X hx
  have h1 : c.args = #[x] := by rw [← Array.toArray_toList (xs := c.args), ha]
  have h2 : c.argTypes = (t :: ts).toArray := by rw [← Array.toArray_toList (xs := c.argTypes), hts]
  have run : ∀ ad n cp, a.eval x = .slice ad n cp → (execOp a.eval o).run C.P w = .ok (.value (.int .i64 n)) w := fun ad n cp ev => by
    obtain ⟨cs, hr⟩ := run_builtin (C := C) (a := a) (w := w) ho hb
    rw [hr, h1, h2]
    simp [builtin, Builtin.len_, ev, run_underlying ht, goInt]
  simp only [AOp.ex]
  split
  · rename_i es xs h
    rw [h] at rx
    unfold RepE RepT at rx
    obtain ⟨ad, n, cp, ev, rfl, _⟩ := rx
    exact gives_pure X (run _ _ _ ev) (by unfold RepE RepT; rfl)
  · rename_i h
    rw [h] at rx
    unfold RepE RepT at rx
    exact gives_pure X (run _ _ _ rx) (by unfold RepE RepT; rfl)
  · rename_i id n h
    split
    · rename_i hl
      rw [h] at rx
      unfold RepE at rx
      obtain ⟨_, _, _, _, g⟩ := rx
      rcases g hl with ⟨b, cc, _, ev⟩ | ⟨_, rfl, ev⟩
      · exact gives_pure X (run _ _ _ ev) (by unfold RepE RepT; rfl)
      · exact gives_pure X (run _ _ _ ev) (by unfold RepE RepT; rfl)
    · trivial
  · rename_i id n es lo ln h
    split
    · rename_i hl
      rw [h] at rx
      unfold RepE at rx
      obtain ⟨_, _, _, _, g⟩ := rx
      obtain ⟨hle, g'⟩ := g hl
      rcases g' with ⟨b, cc, o', _, ev, _⟩ | ⟨_, hn0, ev⟩
      · exact gives_pure X (run _ _ _ ev) (by unfold RepE RepT; rfl)
      · have h0 : ln = 0 := by omega
        subst h0
        exact gives_pure X (run _ _ _ ev) (by unfold RepE RepT; rfl)
    · trivial
  · trivial
theorem mx2_ok {yl : Nat} {σ : List AO} {h : Hp} {mx : Bool} {x y z : E} {u v : Value} {P : Program} {w : World} (hm : mx2 mx x y = some z) (rx : RepE yl ι σ h x u) (ry : RepE yl ι σ h y v) :
    ∃ r, ((if mx then Builtin.max2 u v else Builtin.min2 u v) : Sem Value).run P w = .ok r w ∧ RepE yl ι σ h z r := by
  unfold mx2 at hm
  split at hm
  · rename_i k p k' q
    split at hm
    · rename_i e
      subst e
      cases hm
      unfold RepE RepT at rx ry
      subst rx
      subst ry
      refine ⟨.int k (if mx then max p q else min p q), ?_, by unfold RepE RepT; rfl⟩
      cases mx
      · simp only [Bool.false_eq_true, if_false, Builtin.min2, Sem.run_pure]
        congr 2
        rw [Int.min_def]
        split <;> split <;> omega
      · simp only [if_true, Builtin.max2, Sem.run_pure]
        congr 2
        rw [Int.max_def]
        split <;> split <;> omega
    · cases hm
  · cases hm
theorem mxs_ok {yl : Nat} {σ : List AO} {h : Hp} {mx : Bool} {P : Program} {w : World} : ∀ {ys : List E} {x z : E} {u : Value} {vs : List Value} (_ : mxs mx x ys = some z) (_ : RepE yl ι σ h x u) (_ : RepEs yl ι σ h ys vs),
    ∃ r, (vs.foldlM (if mx then Builtin.max2 else Builtin.min2) u : Sem Value).run P w = .ok r w ∧ RepE yl ι σ h z r
  | [], x, z, u, vs, hm, rx, rs => by
    simp only [mxs] at hm
    cases hm
    unfold RepEs at rs
    subst rs
    exact ⟨u, rfl, rx⟩
  | y :: ys, x, z, u, vs, hm, rx, rs => by
    simp only [mxs] at hm
    unfold RepEs at rs
    obtain ⟨v, vs', rfl, r1, r2⟩ := rs
    split at hm
    · rename_i z' hz
      obtain ⟨r, hr, rr⟩ := mx2_ok (P := P) (w := w) hz rx r1
      obtain ⟨r', hr', rr'⟩ := mxs_ok (P := P) (w := w) hm rr r2
      refine ⟨r', ?_, rr'⟩
      rw [List.foldlM_cons, Sem.run_bind]
      have : ((if mx = true then Builtin.max2 else Builtin.min2) u v).run P w = .ok r w := by cases mx <;> exact hr
      rw [this]
      exact hr'
    · cases hm
theorem op_mxmn (X : InvX C s a w ι vis D) {o : Oper} {c : Call} {mx : Bool} {x' : Opd} {xs' : List Opd} (ho : o.op = .call c) (hb : c.callee = .builtin (if mx then .max else .min)) (ha : cOpds C.P c.args.toList = some (x' :: xs')) :
    ResOK C s o a w ι vis D ((AOp.mxmn mx x' xs').ex s.env s.σ) := by
  have rs := evs_ok X ha
  simp only [List.map_cons] at rs
  unfold RepEs at rs
  obtain ⟨u, us, e, r1, r2⟩ := rs
  simp only [AOp.ex]
  cases hm : mxs mx (x'.ev s.env) (xs'.map (·.ev s.env)) with
  | none => trivial
  | some z =>
    obtain ⟨r, hr, rr⟩ := mxs_ok (P := C.P) (w := w) hm r1 r2
    refine gives_pure X (v := r) ?_ rr
    obtain ⟨cs, hr'⟩ := run_builtin (C := C) (a := a) (w := w) ho hb
    rw [hr']
    cases mx
    · simp only [Bool.false_eq_true, if_false] at hr
      simp only [Bool.false_eq_true, if_false, builtin, Builtin.min_, Array.toList_map, e, Sem.run_bind, hr, Result.andThen_ok, Sem.run_pure]
    · simp only [if_true] at hr
      simp only [if_true, builtin, Builtin.max_, Array.toList_map, e, Sem.run_bind, hr, Result.andThen_ok, Sem.run_pure]
theorem op_call (X : InvX C s a w ι vis D) {o : Oper} {c : Call} {f : Operand} {f' : Opd} {as : List Opd} (ho : o.op = .call c) (hc : c.callee = .value f) (hf : cOpd C.P f = some f') (ha : cOpds C.P c.args.toList = some as) :
    ResOK C s o a w ι vis D ((AOp.call f' as).ex s.env s.σ) := by
  have rf := ev_ok X hf
  have rs := evs_ok X ha
  have base : ∀ (v : Value), a.eval f = v → (execOp a.eval o).run C.P w = (do let d ← Deferred.ofValue v (c.args.toList.map a.eval).toArray; invoke d.target d.args : Sem Next).run C.P w := fun v e => by
    unfold execOp
    simp only [ho, resolve, hc, e, amap]
  have enter : ∀ (n : Nat) (us vs : List Value), a.eval f = .func (.func n) us.toArray vs.toArray → Plain C.P n → (execOp a.eval o).run C.P w = .ok (.enter n (us ++ c.args.toList.map a.eval ++ vs).toArray) w := fun n us vs e ⟨fn, h1, h2, h3⟩ => by
    rw [base _ e]
    obtain ⟨b, hb⟩ := Option.isSome_iff_exists.1 h2
    simp only [beq_eq_false_iff_ne] at h3
    simp [Deferred.ofValue, invoke, callFunc, h1, hb, h3]
  simp only [AOp.ex, callE]
  split
  · rename_i n fs cs h
    rw [h] at rf
    unfold RepE RepT at rf
    obtain ⟨us, vs, e, r1, r2⟩ := rf
    exact ⟨us ++ c.args.toList.map a.eval ++ vs, ((RepEs.map_t r1).append rs).append (RepEs.map_t r2), fun hp => enter n us vs e hp⟩
  · rename_i n fs cs h
    rw [h] at rf
    unfold RepE at rf
    obtain ⟨us, vs, e, r1, r2⟩ := rf
    exact ⟨us ++ c.args.toList.map a.eval ++ vs, (r1.append rs).append r2, fun hp => enter n us vs e hp⟩
  · rename_i h
    rw [h] at rf
    unfold RepE at rf
    exact ⟨c.args.toList.map a.eval, rs, by rw [base _ rf]; simp [Deferred.ofValue, invoke]⟩
  · trivial
theorem op_defer (X : InvX C s a w ι vis D) {o : Oper} {c : Call} {f : Nat} {as : List Opd} (ho : o.op = .defer c) (hc : c.callee = .value (.func f)) (ha : cOpds C.P c.args.toList = some as) :
    ResOK C s o a w ι vis D ((AOp.defer f as).ex s.env s.σ) := by
  have rs := evs_ok X ha
  refine ⟨⟨c, ho⟩, c.args.toList.map a.eval, [], by rw [List.append_nil]; exact rs, ?_⟩
  unfold execOp
  simp only [ho, resolve, hc, amap]
  simp [Deferred.ofValue, Act.eval]
theorem op_deferF (X : InvX C s a w ι vis D) {o : Oper} {c : Call} {f : Operand} {f' : Opd} {as : List Opd} (ho : o.op = .defer c) (hc : c.callee = .value f) (hf : cOpd C.P f = some f') (ha : cOpds C.P c.args.toList = some as) :
    ResOK C s o a w ι vis D ((AOp.deferF f' as).ex s.env s.σ) := by
  have rf := ev_ok X hf
  have rs := evs_ok X ha
  have base : ∀ (n : Nat) (us vs : List Value), a.eval f = .func (.func n) us.toArray vs.toArray → (execOp a.eval o).run C.P w = .ok (.defer { target := .fn (.func n) vs.toArray, args := (us ++ c.args.toList.map a.eval).toArray }) w := fun n us vs e => by
    unfold execOp
    simp only [ho, resolve, hc, e, amap]
    simp [Deferred.ofValue]
  simp only [AOp.ex, callE]
  split
  · rename_i n as' h
    split at h
    · rename_i m fs cs h'
      cases h
      rw [h'] at rf
      unfold RepE RepT at rf
      obtain ⟨us, vs, e, r1, r2⟩ := rf
      exact ⟨⟨c, ho⟩, us ++ c.args.toList.map a.eval, vs, ((RepEs.map_t r1).append rs).append (RepEs.map_t r2), base _ us vs e⟩
    · rename_i m fs cs h'
      cases h
      rw [h'] at rf
      unfold RepE at rf
      obtain ⟨us, vs, e, r1, r2⟩ := rf
      exact ⟨⟨c, ho⟩, us ++ c.args.toList.map a.eval, vs, (r1.append rs).append r2, base _ us vs e⟩
    · cases h
    · cases h
  · trivial
theorem mfind_spec {P : Program} {name : String} {t f : Nat} (h : mfind (mtbl P name) t = some f) : mrow P name t = some f := by
  unfold mtbl at h
  generalize List.range P.types.size = l at h
  induction l with
  | nil => simp [mfind] at h
  | cons u l ih =>
    simp only [List.filterMap_cons] at h
    cases hu : mrow P name u with
    | none => rw [hu] at h; exact ih h
    | some g =>
      rw [hu] at h
      simp only [Option.map_some, mfind] at h
      split at h
      · rename_i e; subst e; cases h; exact hu
      · exact ih h
theorem run_method {P : Program} {w : World} {name : String} {t f : Nat} (h : mrow P name t = some f) (n : Nat) (v : Value) : (method (n + 1) t v name).run P w = .ok (f, v) w := by
  unfold mrow at h
  split at h
  · rename_i i el hi hu
    split at h
    · rename_i m hm
      split at h
      · rename_i hpath
        split at h
        · rename_i f' hf
          cases h
          have hpe : m.path = #[] := by simpa using hpath
          have hti : (typeInfo t).run P w = .ok i w := by simp [typeInfo, hi]
          simp [method, Sem.run_bind, hti, hm, hf, hpe, follow, receiverAt, run_underlying hu, Place.get]
        · cases h
      · cases h
    · cases h
  · rename_i i d hp hi hu
    split at h
    · rename_i m hm
      split at h
      · rename_i hpath
        split at h
        · rename_i f' hf
          cases h
          have hpe : m.path = #[] := by simpa using hpath
          have hti : (typeInfo t).run P w = .ok i w := by simp [typeInfo, hi]
          cases d <;> first | exact (hp _ rfl).elim | simp [method, Sem.run_bind, hti, hm, hf, hpe, follow, receiverAt, run_underlying hu, Place.get]
        · cases h
      · cases h
    · cases h
  · cases h
theorem run_nilAhead {P : Program} {w : World} {name : String} {t f : Nat} (h : mrow P name t = some f) (n : Nat) (v : Value) : (nilAhead (n + 1) t v name).run P w = .ok (some false) w := by
  unfold mrow at h
  split at h
  · rename_i i el hi hu
    split at h
    · rename_i m hm
      split at h
      · rename_i hpath
        split at h
        · rename_i f' hf
          cases h
          have hpe : m.path = #[] := by simpa using hpath
          have hti : (typeInfo t).run P w = .ok i w := by simp [typeInfo, hi]
          simp [nilAhead, Sem.run_bind, hti, hm, hf, hpe, followBlind]
        · cases h
      · cases h
    · cases h
  · rename_i i d hp hi hu
    split at h
    · rename_i m hm
      split at h
      · rename_i hpath
        split at h
        · rename_i f' hf
          cases h
          have hpe : m.path = #[] := by simpa using hpath
          have hti : (typeInfo t).run P w = .ok i w := by simp [typeInfo, hi]
          cases d <;> first | exact (hp _ rfl).elim | simp [nilAhead, Sem.run_bind, hti, hm, hf, hpe, followBlind, run_underlying hu]
        · cases h
      · cases h
    · cases h
  · cases h
theorem op_nilckM (X : InvX C s a w ι vis D) {o : Oper} {name : String} {x : Operand} {x' : Opd} (ho : o.op = .nilCheck x) (hx : cOpd C.P x = some x') : ResOK C s o a w ι vis D ((AOp.nilckM (mtbl C.P name) name x').ex s.env s.σ) := by
  have rx := ev_ok X hx
  have run : ∀ t v vs cs, (mfind (mtbl C.P name) t).isSome = true → a.eval x = .func (.method name) (.iface t v :: vs).toArray cs → (execOp a.eval o).run C.P w = .ok (.value (.func (.method name) (.iface t v :: vs).toArray cs)) w := fun t v vs cs hm e => by
    obtain ⟨f, hf⟩ := Option.isSome_iff_exists.1 hm
    have hn := run_nilAhead (w := w) (mfind_spec hf) (C.P.types.size + Made.depth - 1) v
    have hd : C.P.types.size + Made.depth - 1 + 1 = C.P.types.size + Made.depth := by
      have : 0 < Made.depth := by decide
      omega
    rw [hd] at hn
    unfold execOp
    simp only [ho, e]
    simp [Sem.run_bind, hn]
  simp only [AOp.ex]
  split
  · rename_i nm t y fs cs h
    split
    · rename_i hc
      obtain ⟨rfl, hm⟩ := hc
      rw [h] at rx
      have rx' := rx
      unfold RepE RepT at rx'
      obtain ⟨us, vs, e, r1, _⟩ := rx'
      unfold RepTs at r1
      obtain ⟨u, us', rfl, r2, _⟩ := r1
      unfold RepT at r2
      obtain ⟨v, rfl, _⟩ := r2
      exact gives_pure X (run _ _ _ _ hm e) (by rw [← e]; exact rx)
    · trivial
  · rename_i nm t y fs cs h
    split
    · rename_i hc
      obtain ⟨rfl, hm⟩ := hc
      rw [h] at rx
      have rx' := rx
      unfold RepE at rx'
      obtain ⟨us, vs, e, r1, _⟩ := rx'
      unfold RepEs at r1
      obtain ⟨u, us', rfl, r2, _⟩ := r1
      unfold RepE at r2
      obtain ⟨v, rfl, _⟩ := r2
      exact gives_pure X (run _ _ _ _ hm e) (by rw [← e]; exact rx)
    · trivial
  · rename_i nm t y fs cs h
    split
    · rename_i hc
      obtain ⟨rfl, hm⟩ := hc
      rw [h] at rx
      have rx' := rx
      unfold RepE at rx'
      obtain ⟨us, vs, e, r1, _⟩ := rx'
      unfold RepEs at r1
      obtain ⟨u, us', rfl, r2, _⟩ := r1
      unfold RepE RepT at r2
      obtain ⟨v, rfl, _⟩ := r2
      exact gives_pure X (run _ _ _ _ hm e) (by rw [← e]; exact rx)
    · trivial
  · trivial
theorem op_inv (X : InvX C s a w ι vis D) {o : Oper} {c : Call} {x : Operand} {name : String} {x' : Opd} {as : List Opd} (ho : o.op = .call c) (hc : c.callee = .invoke x name) (hx : cOpd C.P x = some x') (ha : cOpds C.P c.args.toList = some as) :
    ResOK C s o a w ι vis D ((AOp.inv (mtbl C.P name) x' as).ex s.env s.σ) := by
  have rx := ev_ok X hx
  have rs := evs_ok X ha
  have enter : ∀ (t f : Nat) (v : Value), a.eval x = .iface t v → mrow C.P name t = some f → Plain C.P f → (execOp a.eval o).run C.P w = .ok (.enter f (v :: c.args.toList.map a.eval).toArray) w := fun t f v e hm ⟨fn, h1, h2, h3⟩ => by
    obtain ⟨b, hb⟩ := Option.isSome_iff_exists.1 h2
    simp only [beq_eq_false_iff_ne] at h3
    have hmeth := run_method (w := w) hm (C.P.types.size + Made.depth - 1) v
    have hd : C.P.types.size + Made.depth - 1 + 1 = C.P.types.size + Made.depth := by
      have : 0 < Made.depth := by decide
      omega
    rw [hd] at hmeth
    unfold execOp
    simp only [ho, resolve, hc, amap, e]
    simp [invoke, callMethod, hmeth, callFunc, h1, hb, h3, Sem.run_bind]
    exact List.take_of_length_le (by simp)
  simp only [AOp.ex]
  split
  · rename_i t y h
    rw [h] at rx
    unfold RepE RepT at rx
    obtain ⟨v, hv, r⟩ := rx
    split
    · rename_i f hf
      exact ⟨v :: c.args.toList.map a.eval, by unfold RepEs; exact ⟨_, _, rfl, by unfold RepE; exact r, rs⟩, fun hp => enter t f v hv (mfind_spec hf) hp⟩
    · trivial
  · rename_i t y h
    rw [h] at rx
    unfold RepE at rx
    obtain ⟨v, hv, r⟩ := rx
    split
    · rename_i f hf
      exact ⟨v :: c.args.toList.map a.eval, by unfold RepEs; exact ⟨_, _, rfl, r, rs⟩, fun hp => enter t f v hv (mfind_spec hf) hp⟩
    · trivial
  · trivial
end
end Go.Ab
