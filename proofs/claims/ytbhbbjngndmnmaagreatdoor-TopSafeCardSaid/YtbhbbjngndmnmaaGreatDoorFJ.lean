/- Proved here: laws that the statements need (AbL, AbS, AbO, AbQ, AbR, AbP, AbW, AbX, AbY, AbZ, AbG1). No conditions but those that each law states. -/
import Derived.Test.YtbhbbjngndmnmaaGreatDoorFI
import Derived.RangeFuncRecord
set_option linter.unusedSimpArgs false
set_option linter.unusedVariables false
namespace Go.Ab
inductive RV where
  | tmp (t : Nat)
  | cell (t : Nat) (agg : Bool) (k : Nat)
  deriving Inhabited
def cRes (P : Program) : List ResultVar → Option (List RV)
  | [] => some []
  | .tmp t :: rs => match cRes P rs with
    | some l => some (.tmp t :: l)
    | none => none
  | .cell a t :: rs => match tyI P t, cRes P rs with
    | some (ag, k), some l => some (.cell a ag k :: l)
    | _, _ => none
def resEs (s : St) : List RV → Option (List E)
  | [] => some []
  | .tmp t :: rs => match resEs s rs with
    | some l => some (lk s.env t :: l)
    | none => none
  | .cell t ag k :: rs => match load? s.σ ag k (lk s.env t), resEs s rs with
    | some e, some l => some (e :: l)
    | _, _ => none
def resV (rs : List RV) (s : St) : Option E := match resEs s rs with
  | some [e] => some e
  | some l => some (.tup l)
  | none => none
def resM (tmps : Array Value) : ResultVar → Sem Value
  | .tmp t => pure (tmps.getD t undef)
  | .cell a t => do loadVar t (← asAddr (tmps.getD a undef))
theorem results_eq (fn : Func) (tmps : Array Value) : results fn tmps = (fn.results.mapM (resM tmps) >>= fun vs => pure (if h : vs.size = 1 then vs[0] else .tuple vs)) := by
  unfold results
  congr 2
theorem resEs_df {s : St} {df : List Df} : ∀ rs : List RV, resEs { s with df := df } rs = resEs s rs
  | [] => rfl
  | .tmp t :: rs => by simp only [resEs, resEs_df rs]
  | .cell t ag k :: rs => by simp only [resEs, resEs_df rs]
theorem resV_df {s : St} {df : List Df} {rs : List RV} : resV rs { s with df := df } = resV rs s := by unfold resV; rw [resEs_df]
def fin (kn nb : Nat) (rs : List RV) (R : Out → List AO → Prop) : Ex → St → Prop
  | .normal, s | .ret, s => s.df.all (fun d => d matches .mark) = true ∧ s.k = kn ∧ ∃ e, resV rs s = some e ∧ ∃ kp, gcOK kp s.σ = true ∧ keepsBase nb kp = true ∧ R (.ret (e.gc kp s.σ 12)) (σgc kp s.σ 12)
  | .pan x, s => s.df.all (fun d => d matches .mark) = true ∧ s.k = kn ∧ ∃ kp, gcOK kp s.σ = true ∧ keepsBase nb kp = true ∧ R (.pan x) (σgc kp s.σ 12)
  | _, _ => False
section
variable {C : Cx} {s : St} {a : Act} {w : World} {ι : Pl} {vis D : Nat → Prop}
theorem getD_ok (X : InvX C s a w ι vis D) (t : Nat) : RepE C.yl ι s.σ (hp vis w) (lk s.env t) (a.tmps.getD t undef) := X.env t
theorem resEs_ok (X : InvX C s a w ι vis D) : ∀ {rvs : List ResultVar} {rs : List RV} {es : List E} (_ : cRes C.P rvs = some rs) (_ : resEs s rs = some es), ∃ vs, (rvs.mapM (resM a.tmps)).run C.P w = .ok vs w ∧ RepEs C.yl ι s.σ (hp vis w) es vs
  | [], rs, es, h1, h2 => by
    simp only [cRes] at h1; cases h1
    simp only [resEs] at h2; cases h2
    exact ⟨[], by simp, by unfold RepEs; rfl⟩
  | .tmp t :: rvs, rs, es, h1, h2 => by
    simp only [cRes] at h1
    split at h1
    · rename_i l hl
      cases h1
      simp only [resEs] at h2
      split at h2
      · rename_i es' he
        cases h2
        obtain ⟨vs, hr, r⟩ := resEs_ok X hl he
        refine ⟨a.tmps.getD t undef :: vs, ?_, by unfold RepEs; exact ⟨_, _, rfl, getD_ok X t, r⟩⟩
        simp only [List.mapM_cons, Sem.run_bind, resM, Sem.run_pure, Result.andThen_ok, hr]
      · cases h2
    · cases h1
  | .cell c t :: rvs, rs, es, h1, h2 => by
    simp only [cRes] at h1
    split at h1
    · rename_i ag k l ht hl
      cases h1
      simp only [resEs] at h2
      split at h2
      · rename_i e es' hlo he
        cases h2
        obtain ⟨vs, hr, r⟩ := resEs_ok X hl he
        obtain ⟨u, hu, ru⟩ := load_ok X ht (getD_ok X c) hlo
        refine ⟨u :: vs, ?_, by unfold RepEs; exact ⟨_, _, rfl, ru, r⟩⟩
        have hld : (resM a.tmps (.cell c t)).run C.P w = .ok u w := by
          simp only [resM]
          generalize a.tmps.getD c undef = v at *
          cases v with
          | pointer p =>
            cases p with
            | none => simp [Instr.loadAt, Instr.sureAddr] at hu
            | some ad => simpa [Instr.loadAt, Instr.sureAddr, asAddr] using hu
          | _ => simp [Instr.loadAt, Instr.sureAddr] at hu
        simp only [List.mapM_cons, Sem.run_bind, hld, Result.andThen_ok, hr, Sem.run_pure]
      · cases h2
    · cases h1
theorem resV_ok (X : InvX C s a w ι vis D) {fn : Func} {rs : List RV} {e : E} (h1 : cRes C.P fn.results.toList = some rs) (h2 : resV rs s = some e) : ∃ v, (results fn a.tmps).run C.P w = .ok v w ∧ RepE C.yl ι s.σ (hp vis w) e v := by
  unfold resV at h2
  have run : ∀ vs : List Value, (fn.results.toList.mapM (resM a.tmps)).run C.P w = .ok vs w → (results fn a.tmps).run C.P w = .ok (if h : vs.toArray.size = 1 then vs.toArray[0] else .tuple vs.toArray) w := fun vs h => by
    have hm : (fn.results.mapM (resM a.tmps)).run C.P w = .ok vs.toArray w := by
      rw [Array.mapM_eq_mapM_toList]
      simp [h]
    rw [results_eq, Sem.run_bind, hm]
    rfl
  split at h2
  · rename_i e' he
    cases h2
    obtain ⟨vs, hr, r⟩ := resEs_ok X h1 he
    unfold RepEs at r
    obtain ⟨u, us, rfl, r1, r2⟩ := r
    unfold RepEs at r2
    subst r2
    exact ⟨u, by rw [run _ hr]; simp, r1⟩
  · rename_i l hne he
    cases h2
    obtain ⟨vs, hr, r⟩ := resEs_ok X h1 he
    have hl := r.length
    refine ⟨.tuple vs.toArray, ?_, by unfold RepE; exact ⟨vs, rfl, r⟩⟩
    rw [run _ hr, dif_neg]
    intro h
    have : l.length = 1 := by rw [hl]; simpa using h
    match l, this with
    | [x], _ => exact hne x rfl
  · cases h2
end
section
variable {C : Cx} {s : St} {a : Act} {w : World} {ι : Pl} {vis D : Nat → Prop}
theorem hp_putC {r : Nat} {o : Go.Obj} {ds : Option (List Deferred)} (hr : w.heap[r]? = some (.deferred ds)) : (hp vis w).leC (hp (fun b => vis b ∧ b ≠ r) (w.putObj r o)) := ⟨fun b arr ty fr ⟨h1, h2⟩ => by
  have hne : b ≠ r := fun e => by subst e; rw [hr] at h2; cases h2
  exact ⟨⟨h1, hne⟩, by rw [World.putObj_heap_other hne]; exact h2⟩, fun b ms clk ⟨h1, h2⟩ => by
  have hne : b ≠ r := fun e => by subst e; rw [hr] at h2; cases h2
  exact ⟨⟨h1, hne⟩, by rw [World.putObj_heap_other hne]; exact h2⟩⟩
theorem leC_refl (h : Hp) : h.leC h := ⟨fun _ _ _ _ h => h, fun _ _ _ h => h⟩
theorem leC_trans {h h' h'' : Hp} (a : h.leC h') (b : h'.leC h'') : h.leC h'' := ⟨fun _ _ _ _ h => b.1 _ _ _ _ (a.1 _ _ _ _ h), fun _ _ _ h => b.2 _ _ _ (a.2 _ _ _ h)⟩
theorem InvX.unmark {df' : List Df} (X : InvX C s a w ι vis D) (hdf : s.df = .mark :: df') : ∃ r ds, a.defers = { target := .collected r, args := #[] } :: ds ∧ (Instr.takeDeferred r).run C.P w = .ok [] (w.putObj r (.deferred none)) ∧ C.sz0 ≤ r ∧
    InvX C { s with df := df' } { a with defers := ds } (w.putObj r (.deferred none)) ι (fun b => vis b ∧ b ≠ r) D ∧ (hp vis w).leC (hp (fun b => vis b ∧ b ≠ r) (w.putObj r (.deferred none))) := by
  have h := X.df
  rw [hdf] at h
  obtain ⟨d', ds, hds, ⟨r, rfl, hsz, hv, hb⟩, hne, hrest⟩ := h
  have hC := hp_putC (vis := vis) (o := .deferred none) hb
  refine ⟨r, ds, hds, run_takeDeferred hb, hsz, ⟨?_, X.sz, fun i => (X.env i).monoC (Goes.refl _ _) hC, ?_⟩, hC⟩
  · have M := X.mem
    have hlt : r < w.heap.size := M.visLt r hv
    refine ⟨M.glob.monoC hC, M.inj, fun i b c hi => ?_, fun b hb => ?_, fun b hb => ?_, fun b hb => M.visD b hb.1, fun i o hi => ?_, ?_⟩
    · obtain ⟨h1, h2, h3, h4⟩ := M.own i b c hi
      exact ⟨h1, by simpa using h2, fun h => h3 h.1, h4⟩
    · simpa using M.visLt b hb.1
    · simpa using M.DLt b hb
    · have ho := M.objs i o hi
      cases hp : ι i with
      | none => rw [hp] at ho; exact ho
      | some bc =>
        obtain ⟨b, c⟩ := bc
        rw [hp] at ho
        obtain ⟨ob, h1, h2⟩ := ho
        have hbr : b ≠ r := fun e => (M.own i b c hp).2.2.1 (e ▸ hv)
        exact ⟨ob, by rw [World.putObj_heap_other hbr]; exact h1, h2.monoC (Goes.refl _ _) hC⟩
    · exact C.keep _ D w _ M.hist (fun b hb => World.putObj_heap_other fun e => M.visD r hv (e ▸ hb)) (by simp) rfl rfl rfl
  · have key : ∀ (df' : List Df) (ds : List Deferred), (∀ e ∈ ds, e.target ≠ .collected r) → RepDs C.sz0 C.yl ι s.σ (hp vis w) df' ds → RepDs C.sz0 C.yl ι s.σ (hp (fun b => vis b ∧ b ≠ r) (w.putObj r (.deferred none))) df' ds := by
      intro df'
      induction df' with
      | nil => intro ds _ h; exact h
      | cons d df' ih =>
        rintro ds hne ⟨d', ds', rfl, r1, r0, r2⟩
        refine ⟨d', ds', rfl, ?_, r0, ih ds' (fun e he => hne e (List.mem_cons_of_mem _ he)) r2⟩
        cases d with
        | call f args => obtain ⟨vs, cs, e, r⟩ := r1; exact ⟨vs, cs, e, r.monoC (Goes.refl _ _) hC⟩
        | mark =>
          obtain ⟨b, rfl, h1, h2, h3⟩ := r1
          have hbr : b ≠ r := fun e => hne _ List.mem_cons_self (by rw [e])
          exact ⟨b, rfl, h1, ⟨h2, hbr⟩, by rw [World.putObj_heap_other hbr]; exact h3⟩
    exact key df' ds (fun e he => hne r rfl e he) hrest
theorem InvX.leave {fn : Func} {R : Ending → World → Prop} {u : FrameMode} (hu : u ≠ .run) : ∀ (df : List Df) {s : St} {a : Act} {w : World} {vis : Nat → Prop}, s.df = df → df.all (fun d => d matches .mark) = true → InvX C s a w ι vis D →
    (∀ w' vis', InvX C { s with df := [] } { a with defers := [] } w' ι vis' D → (hp vis w).leC (hp vis' w') → w'.heap.size = w.heap.size → (∀ b, vis' b → vis b) → (∀ b, b < C.sz0 → vis b → vis' b) → (∀ b, b < C.sz0 → w'.heap[b]? = w.heap[b]?) →
      LeavesIn Fence.wide 0 C.P fn a.tmps R [] u w') → LeavesInM Fence.wide 0 C.P fn a.tmps R a.defers u w
  | [], s, a, w, vis, hdf, _, X, h => by
    have hd : a.defers = [] := by have := X.df; rw [hdf] at this; exact this
    rw [hd]
    refine h w vis ⟨X.mem, X.sz, X.env, rfl⟩ (leC_refl _) rfl (fun _ h => h) (fun _ _ h => h) (fun _ _ => rfl)
  | .mark :: df', s, a, w, vis, hdf, hall, X, h => by
    obtain ⟨r, ds, hds, hrun, hsz, X', hC⟩ := X.unmark hdf
    rw [hds]
    refine ⟨hu, .inl ⟨r, _, rfl, hrun, ?_⟩⟩
    refine InvX.leave hu df' (s := { s with df := df' }) (a := { a with defers := ds }) rfl (by simpa using hall) X' fun w' vis' X'' h1 h2 h3 h4 h5 => ?_
    exact h w' vis' X'' (leC_trans hC h1) (by simpa using h2) (fun b hb => (h3 b hb).1) (fun b hb hv => h4 b hb ⟨hv, by omega⟩) (fun b hb => by rw [h5 b hb, World.putObj_heap_other (by omega)])
  | .call _ _ :: _, _, _, _, _, _, hall, _, _ => by simp at hall
end
def argEnv : Nat → List E → List (Nat × E)
  | _, [] => []
  | i, e :: es => (i, e) :: argEnv (i + 1) es
structure FnC (P : Program) (f : Nat) (nt : Nat) (pn gp : List Nat) (rs : List RV) (ac : AC) (na : Nat) : Prop where
  get : ∃ fn c, P.funcs[f]? = some fn ∧ fn.body = some c ∧ (fn.name == "runtime.NumGoroutine") = false ∧ fn.ntmps = nt ∧ na ≤ nt ∧ cRes P fn.results.toList = some rs ∧ compC P nt pn gp c = some ac
theorem yok_no {C : Cx} {vis₀ : Nat → Prop} {w₀ : World} : YOK C vis₀ w₀ (fun _ _ => False) none := fun _ _ _ _ _ _ h => h.elim
theorem InvX.enter {C0 : Cx} {k nt : Nat} {w : World} {ι : Pl} {vis D : Nat → Prop} {σ : List AO} {args : List E} {vs : List Value} (M0 : Mem C0 k σ w ι vis D) (r : RepEs C0.yl ι σ (hp vis w) args vs) (ha : args.length ≤ nt) :
    InvX { C0 with k0 := k, nt := nt, sz0 := w.heap.size } { env := argEnv 0 args, σ := σ } { tmps := vs.toArray ++ Array.replicate (nt - vs.toArray.size) undef, defers := [] } w ι vis D := by
  let C : Cx := { C0 with k0 := k, nt := nt, sz0 := w.heap.size }
  have M : Mem C (C.k0 + 0) σ w ι vis D := ⟨M0.glob, M0.inj, M0.own, M0.visLt, M0.DLt, M0.visD, M0.objs, M0.hist⟩
  have hl := r.length
  refine ⟨M, ?_, fun i => ?_, rfl⟩
  · show (vs.toArray ++ Array.replicate (nt - vs.toArray.size) undef).size = nt
    simp only [Array.size_append, List.size_toArray, Array.size_replicate]
    omega
  · obtain ⟨_, hr⟩ := RepEs_iff.1 r
    have key : ∀ (es : List E) (n : Nat), (∀ (j : Nat) x, es[j]? = some x → ∃ v, vs[n + j]? = some v ∧ RepE C0.yl ι σ (hp vis w) x v) →
        RepE C0.yl ι σ (hp vis w) (lk (argEnv n es) i) ((vs.toArray ++ Array.replicate (nt - vs.toArray.size) undef).getD i undef) := by
      intro es
      induction es with
      | nil => intro n _; simp only [argEnv, lk]; unfold RepE; trivial
      | cons x es ih =>
        intro n h
        simp only [argEnv, lk]
        split
        · rename_i e
          subst e
          obtain ⟨v, hv, rv⟩ := h 0 x rfl
          have hlt := (List.getElem?_eq_some_iff.1 hv).1
          have : (vs.toArray ++ Array.replicate (nt - vs.toArray.size) undef).getD i undef = v := by
            simp only [Array.getD_eq_getD_getElem?]
            rw [Array.getElem?_append_left (by simpa using hlt)]
            simpa using congrArg (·.getD undef) hv
          rw [this]
          exact rv
        · exact ih (n + 1) fun j y hy => by have := h (j + 1) y (by simpa using hy); simpa [Nat.add_assoc, Nat.add_comm 1 j] using this
    exact key args 0 fun j x hx => by simpa using RepEs.get r hx
def CallPost (C : Cx) (k : Nat) (w : World) (ι : Pl) (σ : List AO) (vis D : Nat → Prop) (R : Out → List AO → Prop) (e : Ending) (w' : World) : Prop :=
  ∃ o σ' ι' vis' D', R o σ' ∧ Mem C k σ' w' ι' vis' D' ∧ Up ι σ vis w ι' σ' vis' w' ∧ UpD D w D' ∧ RepOut C.yl ι' σ' (hp vis' w') o e
theorem fin_leaves {C0 : Cx} {k kn nt : Nat} {w : World} {ι : Pl} {vis D : Nat → Prop} {σ : List AO} {fn : Func} {rs : List RV} {R : Out → List AO → Prop} (h5 : cRes C0.P fn.results.toList = some rs) (M0 : Mem C0 k σ w ι vis D)
    {e : Exit} {a' : Act} {w' : World} {Pst : Ending → World → Prop} (hPst : ∀ e w', CallPost C0 (k + kn) w ι σ vis D R e w' → Pst e w') (h : Lift { C0 with k0 := k, nt := nt, sz0 := w.heap.size } σ.length ι σ vis w D (fin kn σ.length rs R) e a' w') : bodyPostM Fence.wide 0 C0.P fn Pst e a' w' := by
  obtain ⟨s', ι', vis', D', ex, hx, hq, X', U, ud⟩ := h
  have hend : ∀ {w'' : World} {vis'' : Nat → Prop} {kp : List Nat}, s'.k = kn → gcOK kp s'.σ = true → keepsBase σ.length kp = true → InvX { C0 with k0 := k, nt := nt, sz0 := w.heap.size } { s' with df := [] } { a' with defers := [] } w'' ι' vis'' D' →
      (hp vis' w').leC (hp vis'' w'') → w''.heap.size = w'.heap.size → (∀ b, vis'' b → vis' b) → (∀ b, b < w.heap.size → vis' b → vis'' b) → (∀ b, b < w.heap.size → w''.heap[b]? = w'.heap[b]?) →
      Mem C0 (k + kn) (σgc kp s'.σ 12) w'' (gcPl kp ι') (gcVis kp ι' vis'') D' ∧ Up ι σ vis w (gcPl kp ι') (σgc kp s'.σ 12) (gcVis kp ι' vis'') w'' := fun {w'' vis'' kp} h0 hk hb X'' g1 g2 g3 g4 g5 => by
    have M' := X''.mem.gc 12 hk
    refine ⟨⟨M'.glob, M'.inj, M'.own, M'.visLt, M'.DLt, M'.visD, M'.objs, by have := M'.hist; rw [show ({ s' with df := [] } : St).k = kn from h0] at this; exact this⟩, ?_⟩
    have u1 : UpN σ.length ι σ vis w ι' s'.σ vis'' w'' := ⟨U.len, U.len', U.fix, U.row, fun b o ⟨q1, q2⟩ => by
        obtain ⟨q3, q4⟩ := U.le b o ⟨q1, q2⟩
        have hlt := M0.visLt b q1
        exact ⟨g4 b hlt q3, by rw [g5 b hlt]; exact q4⟩, by rw [g2]; exact U.size, U.own, fun b hb => U.vis b (g3 b hb)⟩
    exact (u1.trans (UpN.gc (s := s') (lv := []) (UpN.refl U.len' _ _ _) hb)).up
  have hret : (s'.df.all (fun d => d matches .mark) = true ∧ s'.k = kn ∧ ∃ e, resV rs s' = some e ∧ ∃ kp, gcOK kp s'.σ = true ∧ keepsBase σ.length kp = true ∧ R (.ret (e.gc kp s'.σ 12)) (σgc kp s'.σ 12)) →
      LeavesInM Fence.wide 0 C0.P fn a'.tmps Pst a'.defers .returning w' := by
    rintro ⟨q1, q2, e, q3, kp, q4, q5, q6⟩
    refine InvX.leave (C := { C0 with k0 := k, nt := nt, sz0 := w.heap.size }) (by simp) _ rfl q1 X' fun w'' vis'' X'' g1 g2 g3 g4 g5 => ?_
    obtain ⟨v, hv, rv⟩ := resV_ok (C := { C0 with k0 := k, nt := nt, sz0 := w.heap.size }) X'' (fn := fn) h5 (by rw [resV_df]; exact q3)
    obtain ⟨M', U'⟩ := hend q2 q4 q5 X'' g1 g2 g3 g4 g5
    exact ⟨v, hv, hPst _ _ ⟨_, _, _, _, _, q6, M', U', ud, gc_ok X''.mem 12 12 e v rv rfl⟩⟩
  cases e <;> cases ex <;> first | exact hx.elim | skip
  · exact hret hq
  · exact hq.elim
  · exact hret hq
  · obtain ⟨q1, q2, kp, q4, q5, q6⟩ := hq
    obtain ⟨v, rfl, rv⟩ := hx
    refine InvX.leave (C := { C0 with k0 := k, nt := nt, sz0 := w.heap.size }) (by simp) _ rfl q1 X' fun w'' vis'' X'' g1 g2 g3 g4 g5 => ?_
    obtain ⟨M', U'⟩ := hend q2 q4 q5 X'' g1 g2 g3 g4 g5
    exact hPst _ _ ⟨_, _, _, _, _, q6, M', U', ud, v, rfl, (rv.monoC g1).mono (gc_le kp ι' vis'' w'')⟩
theorem ACall.intro {P : Program} {f nt na : Nat} {pn gp : List Nat} {rs : List RV} {ac : AC} {args : List E} {σ : List AO} {R : Out → List AO → Prop} (hf : FnC P f nt pn gp rs ac na) (ha : args.length = na)
    (h : awp { P := P, nb := σ.length, pn := pn } ac (fin 0 σ.length rs R) { env := argEnv 0 args, σ := σ }) : ACall P f args σ R := by
  obtain ⟨fn, c, h1, h2, h3, rfl, h4, h5, h6⟩ := hf.get
  refine ⟨⟨fn, h1, by rw [h2]; rfl, h3⟩, ?_⟩
  intro C0 k w ι vis D vs hC M0 r
  subst hC
  refine callsIn_of_wp_marks h1 h2 trivial ?_ rfl
  have X := InvX.enter (nt := fn.ntmps) M0 r (by omega)
  have hs := awp_sound c { P := C0.P, nb := σ.length, pn := pn } { C0 with k0 := k, nt := fn.ntmps, sz0 := w.heap.size } ι σ vis D w gp yok_no rfl (Nat.le_refl _) ac h6 _ _ _ w ι vis D X (UpN.refl (Nat.le_refl _) ι vis w) (UpD.refl _ _) h
  exact wpIn_mono hs fun e a' w' hl => fin_leaves (kn := 0) h5 M0 (fun _ _ h => h) hl
end Go.Ab
namespace Go.Ab
class Lz (α : Type) where
  get : α
def BrL (c : Bool) [A : Lz Prop] [B : Lz Prop] : Prop := Br c A.get B.get
def awpL (W : W) [c : Lz AC] [Q : Lz (Ex → St → Prop)] (s : St) : Prop := awp W c.get Q.get s
def wpIsL (W : W) [K : Lz (St → Prop)] [Kp : Lz (T → St → Prop)] [is : Lz (List AI)] (s : St) : Prop := wpIs W K.get Kp.get is.get s
def awpDL (W : W) [K : Lz (St → Prop)] [Kp : Lz (T → St → Prop)] [t : Lz DT] (s : St) : Prop := awpD W K.get Kp.get t.get s
def wpIL (W : W) (i : AI) [K : Lz (St → Prop)] [Kp : Lz (T → St → Prop)] (s : St) : Prop := wpI W i K.get Kp.get s
def wpResL (W : W) [s : Lz St] [K : Lz (E → St → Prop)] [Kp : Lz (T → St → Prop)] (r : Res) : Prop := wpRes W s.get K.get Kp.get r
def ACallL (P : Program) (f : Nat) (args : List E) (σ : List AO) [R : Lz (Out → List AO → Prop)] : Prop := ACall P f args σ R.get
def finL (kn nb : Nat) [rs : Lz (List RV)] [R : Lz (Out → List AO → Prop)] (e : Ex) (s : St) : Prop := fin kn nb rs.get R.get e s
def AndL [A : Lz Prop] [B : Lz Prop] : Prop := A.get ∧ B.get
section
variable {W : W} {Q : Lz (Ex → St → Prop)} {K : Lz (St → Prop)} {Kp : Lz (T → St → Prop)} {s : St}
theorem awpL_skip : @awpL W ⟨.skip⟩ Q s = Q.get .normal s := propext Iff.rfl
theorem awpL_reg {is : List AI} : @awpL W ⟨.reg is⟩ Q s = @wpIsL W ⟨Q.get .normal⟩ ⟨fun x s => Q.get (.pan x) s⟩ ⟨is⟩ s := propext Iff.rfl
theorem awpL_draw {t : DT} : @awpL W ⟨.draw t⟩ Q s = @awpDL W ⟨Q.get .normal⟩ ⟨fun x s => Q.get (.pan x) s⟩ ⟨t⟩ s := propext Iff.rfl
theorem awpL_seq {a b : AC} : @awpL W ⟨.seq a b⟩ Q s = @awpL W ⟨a⟩ ⟨fun e s => match e with | .normal => @awpL W ⟨b⟩ Q s | e => Q.get e s⟩ s := propext Iff.rfl
theorem awpL_cond {x : Opd} {a b : AC} : @awpL W ⟨.cond x a b⟩ Q s = match x.ev s.env with
    | .t (.lit (.bool t)) => @BrL t ⟨@awpL W ⟨a⟩ Q s⟩ ⟨@awpL W ⟨b⟩ Q s⟩
    | _ => False := propext Iff.rfl
theorem awpL_block {id : Nat} {c : AC} : @awpL W ⟨.block id c⟩ Q s = @awpL W ⟨c⟩ ⟨fun e s => match e with | .exit j => if j = id then Q.get .normal s else Q.get (.exit j) s | e => Q.get e s⟩ s := propext Iff.rfl
theorem awpL_exit {id : Nat} : @awpL W ⟨.exit id⟩ Q s = Q.get (.exit id) s := propext Iff.rfl
theorem awpL_scope {c : AC} : @awpL W ⟨.scope c⟩ Q s = @awpL W ⟨c⟩ Q s := propext Iff.rfl
theorem awpL_ret : @awpL W ⟨.ret⟩ Q s = Q.get .ret s := propext Iff.rfl
theorem wpIsL_nil : @wpIsL W K Kp ⟨[]⟩ s = K.get s := propext Iff.rfl
theorem wpIsL_cons {i : AI} {is : List AI} : @wpIsL W K Kp ⟨i :: is⟩ s = @wpIL W i ⟨fun s => @wpIsL W K Kp ⟨is⟩ s⟩ Kp s := propext Iff.rfl
theorem awpDL_done : @awpDL W K Kp ⟨.done⟩ s = K.get s := propext Iff.rfl
theorem awpDL_step {i : AI} {t : DT} : @awpDL W K Kp ⟨.step i t⟩ s = @wpIL W i ⟨fun s => @awpDL W K Kp ⟨t⟩ s⟩ Kp s := propext Iff.rfl
theorem awpDL_ev1 {i : AI} {chk : List AI} {t : DT} : @awpDL W K Kp ⟨.ev i chk t .stop⟩ s = @wpIL W i ⟨fun s => chkOK s chk ∧ @awpDL W K Kp ⟨t⟩ s⟩ Kp s := by
  show (_ ∧ True) = _
  rw [and_true]
  exact propext Iff.rfl
theorem awpDL_ev {i j : AI} {chk chk' : List AI} {t t' r : DT} : @awpDL W K Kp ⟨.ev i chk t (.ev j chk' t' r)⟩ s = @AndL ⟨@wpIL W i ⟨fun s => chkOK s chk ∧ @awpDL W K Kp ⟨t⟩ s⟩ Kp s⟩ ⟨@awpDL W K Kp ⟨.ev j chk' t' r⟩ s⟩ := propext Iff.rfl
theorem wpIL_plain {d : Option Nat} {op : AOp} : @wpIL W ⟨d, none, op⟩ K Kp s =
    @wpResL W ⟨s⟩ ⟨fun e s' => K.get (St.put { env := s'.env, σ := s'.σ, df := s'.df, k := s'.k } d e)⟩ Kp (op.ex s.env s.σ) := propext Iff.rfl
theorem wpIL_guard {d : Option Nat} {t : Nat} {b : Bool} {op : AOp} : @wpIL W ⟨d, some (t, b), op⟩ K Kp s =
    match lk s.env t with
    | .t (.lit v) => @BrL (gv v b) ⟨@wpResL W ⟨s⟩ ⟨fun e s' => K.get (St.put { env := s'.env, σ := s'.σ, df := s'.df, k := s'.k } d e)⟩ Kp (op.ex s.env s.σ)⟩ ⟨K.get (s.put d (.t (.lit undef)))⟩
    | _ => False := propext Iff.rfl
variable {ss : Lz St} {KR : Lz (E → St → Prop)} {KpR : Lz (T → St → Prop)}
theorem wpResL_ok {e : E} {σ : List AO} : @wpResL W ss KR KpR (.ok e σ) = KR.get e { ss.get with σ := σ } := propext Iff.rfl
theorem wpResL_pan {x : T} : @wpResL W ss KR KpR (.pan x) = KpR.get x (ss.get.cut W.pn) := propext Iff.rfl
theorem wpResL_need {c : Prop} {r : Res} : @wpResL W ss KR KpR (.need c r) = (c ∧ @wpResL W ss KR KpR r) := propext Iff.rfl
theorem wpResL_call {f : Nat} {args : List E} : @wpResL W ss KR KpR (.call f args) = @ACallL W.P f args ss.get.σ ⟨fun o σ' => match o with | .ret e => KR.get e { ss.get with σ := σ' } | .pan x => KpR.get x (St.cut W.pn { ss.get with σ := σ' })⟩ := propext Iff.rfl
theorem wpResL_defer {f : Nat} {args : List E} : @wpResL W ss KR KpR (.defer f args) = (W.ro = none ∧ KR.get (.t (.lit undef)) { ss.get with df := .call f args :: ss.get.df }) := propext Iff.rfl
theorem wpResL_yield {v : Value} : @wpResL W ss KR KpR (.yield [.t (.lit v)]) = (W.ro = none ∧ W.yp ss.get.k v ∧ (match W.sk with | none => True | some n => KR.get (.t (.lit (.bool false))) { ss.get with k := n }) ∧ (match W.pk with | none => True | some (n, x) => KpR.get x (St.cut W.pn { ss.get with k := n })) ∧ KR.get (.t (.lit (.bool true))) { ss.get with k := ss.get.k + 1 }) := propext Iff.rfl
theorem wpResL_yieldA {cs : List T} : @wpResL W ss KR KpR (.yield [.t (.agg cs)]) = match (T.agg cs).val? with | some v => (W.ro = none ∧ W.yp ss.get.k v ∧ (match W.sk with | none => True | some n => KR.get (.t (.lit (.bool false))) { ss.get with k := n }) ∧ (match W.pk with | none => True | some (n, x) => KpR.get x (St.cut W.pn { ss.get with k := n })) ∧ KR.get (.t (.lit (.bool true))) { ss.get with k := ss.get.k + 1 }) | none => False := propext Iff.rfl
theorem BrL_true {A B : Lz Prop} : @BrL true A B = A.get := by simp [BrL, Br]
theorem BrL_false {A B : Lz Prop} : @BrL false A B = B.get := by simp [BrL, Br]
theorem Br_true {A B : Prop} : Br true A B = A := by simp [Br]
theorem Br_false {A B : Prop} : Br false A B = B := by simp [Br]
theorem BrL.mk {c : Bool} {A B : Lz Prop} (h1 : c = true → A.get) (h2 : c = false → B.get) : @BrL c A B := ⟨h1, h2⟩
theorem awpL_gcp (kp lv : List Nat) (h1 : gcOK kp s.σ = true) (h2 : keepsBase W.nb kp = true) (h3 : Q.get .normal (s.gc kp lv)) : @awpL W ⟨.gcp⟩ Q s := ⟨_, Sub.gc kp lv h1 h2, h3⟩
theorem awpL_gcpS {s' : St} (h1 : Sub W.nb s s') (h3 : Q.get .normal s') : @awpL W ⟨.gcp⟩ Q s := ⟨s', h1, h3⟩
theorem awpL_loop {c : AC} (inv : Nat → St → Prop) (h0 : ∃ n s', Sub W.nb s s' ∧ inv n s')
    (h : ∀ n s, inv n s → @awpL W ⟨c⟩ ⟨fun e s => match e with | .normal => ∃ m s', m < n ∧ Sub W.nb s s' ∧ inv m s' | e => Q.get e s⟩ s) : @awpL W ⟨.loop c⟩ Q s :=
  ⟨inv, h0, h⟩
theorem ACallL.of {P : Program} {f : Nat} {args : List E} {σ : List AO} {R : Lz (Out → List AO → Prop)} {R' : Out → List AO → Prop} (h : ACall P f args σ R') (hr : ∀ o σ', R' o σ' → R.get o σ') : @ACallL P f args σ R := h.mono hr
theorem ACall.walk {P : Program} {f nt na : Nat} {pn gp : List Nat} {rs : List RV} {ac : AC} {args : List E} {σ : List AO} {R : Out → List AO → Prop} (hf : FnC P f nt pn gp rs ac na)
    (h : @awpL { P := P, nb := σ.length, pn := pn } ⟨ac⟩ ⟨fun e s => @finL 0 σ.length ⟨rs⟩ ⟨R⟩ e s⟩ { env := argEnv 0 args, σ := σ, df := [], k := 0 }) (ha : args.length = na := by rfl) : ACall P f args σ R := ACall.intro hf ha h
end
section
variable {kn nb : Nat} {rs : Lz (List RV)} {R : Lz (Out → List AO → Prop)} {s : St}
theorem finL_normal : @finL kn nb rs R .normal s = @finL kn nb rs R .ret s := propext Iff.rfl
theorem finL_exit {i : Nat} : @finL kn nb rs R (.exit i) s = False := propext Iff.rfl
theorem finL_ret (kp : List Nat) (h : s.df.all (fun d => d matches .mark) = true ∧ s.k = kn ∧ gcOK kp s.σ = true ∧ keepsBase nb kp = true ∧ ∃ e, resV rs.get s = some e ∧ R.get (.ret (e.gc kp s.σ 12)) (σgc kp s.σ 12)) : @finL kn nb rs R .ret s :=
  let ⟨h1, h2, h3, h4, e, h5, h6⟩ := h
  ⟨h1, h2, e, h5, kp, h3, h4, h6⟩
theorem finL_pan {x : T} (kp : List Nat) (h : s.df.all (fun d => d matches .mark) = true ∧ s.k = kn ∧ gcOK kp s.σ = true ∧ keepsBase nb kp = true ∧ R.get (.pan x) (σgc kp s.σ 12)) : @finL kn nb rs R (.pan x) s :=
  let ⟨h1, h2, h3, h4, h6⟩ := h
  ⟨h1, h2, kp, h3, h4, h6⟩
end
section
variable {k k' : IntKind} {a b : Int}
theorem binV_add : binV .add (.int k a) (.int k b) = some (.int k (k.wrap (a + b))) := by simp [binV]
theorem binV_sub : binV .sub (.int k a) (.int k b) = some (.int k (k.wrap (a - b))) := by simp [binV]
theorem binV_mul : binV .mul (.int k a) (.int k b) = some (.int k (k.wrap (a * b))) := by simp [binV]
theorem binV_quo : binV .quo (.int k a) (.int k b) = if b = 0 then none else some (.int k (k.wrap (a.tdiv b))) := by simp [binV]
theorem binV_rem : binV .rem (.int k a) (.int k b) = if b = 0 then none else some (.int k (a.tmod b)) := by simp [binV]
theorem binV_and : binV .and (.int k a) (.int k b) = some (.int k (bits .and k a b)) := by simp [binV]
theorem binV_or : binV .or (.int k a) (.int k b) = some (.int k (bits .or k a b)) := by simp [binV]
theorem binV_andNot : binV .andNot (.int k a) (.int k b) = some (.int k (bits .andNot k a b)) := by simp [binV]
theorem binV_eql : binV .eql (.int k a) (.int k b) = some (.bool (a == b)) := by simp [binV]
theorem binV_neq : binV .neq (.int k a) (.int k b) = some (.bool (a != b)) := by simp [binV]
theorem binV_lss : binV .lss (.int k a) (.int k b) = some (.bool (decide (a < b))) := by simp [binV]
theorem binV_leq : binV .leq (.int k a) (.int k b) = some (.bool (decide (a ≤ b))) := by simp [binV]
theorem binV_gtr : binV .gtr (.int k a) (.int k b) = some (.bool (decide (a > b))) := by simp [binV]
theorem binV_geq : binV .geq (.int k a) (.int k b) = some (.bool (decide (a ≥ b))) := by simp [binV]
theorem binV_shl : binV .shl (.int k a) (.int k' b) = if b < 0 then none else some (.int k (k.wrap (a * 2 ^ (min b.toNat k.bits)))) := by simp [binV]
theorem binV_shr : binV .shr (.int k a) (.int k' b) = if b < 0 then none else some (.int k (a.fdiv (2 ^ (min b.toNat k.bits)))) := by simp [binV]
end
attribute [go_sem]  BrL_true BrL_false Br_true Br_false awpL_skip awpL_reg awpL_draw awpL_seq awpL_cond awpL_block awpL_exit awpL_scope awpL_ret wpIsL_nil wpIsL_cons awpDL_done awpDL_step awpDL_ev1 awpDL_ev wpIL_plain wpIL_guard
   wpResL_ok wpResL_pan wpResL_need wpResL_call wpResL_defer wpResL_yield wpResL_yieldA T.val? T.lits? T.ofV  
  finL_normal finL_exit AOp.ex Opd.ev lk argEnv St.put St.cut chkOK Yld resIs gv binV_add binV_sub binV_mul binV_quo binV_rem binV_and binV_or  binV_andNot binV_eql binV_neq binV_lss binV_leq binV_gtr binV_geq binV_shl binV_shr unV load? store? rd rdT E.cells? T.cells? E.mk allT E.mkFn E.mkIface E.isAgg splice
  mx2 mxs fillE fillR elts? callE ofO zlist zeroE rowLen AO.len?
  List.set_cons_zero List.set_cons_succ List.getD_cons_zero List.getD_cons_succ List.getElem?_cons_zero List.getElem?_cons_succ List.take_succ_cons List.take_zero List.drop_succ_cons List.drop_zero List.length_cons List.length_nil
  List.map_cons List.map_nil List.cons_append List.nil_append List.replicate_succ List.replicate_zero List.set_nil List.getElem?_nil List.drop_nil List.take_nil List.headD_cons List.append_nil eq_self
  Option.map_some Option.map_none Option.bind_some Option.bind_none
  if_true if_false true_and and_true false_and and_false true_implies implies_true false_implies
  decide_eq_true_eq decide_eq_false_iff_not beq_true beq_false Bool.not_eq_true' Bool.not_eq_false' Bool.true_eq_false Bool.false_eq_true not_true_eq_false not_false_eq_true ne_eq and_self
  Nat.zero_add Nat.add_zero Nat.lt_irrefl Nat.le_refl Int.toNat_natCast Int.natCast_nonneg reduceCtorEq Bool.and_eq_true Bool.or_eq_true
  Int.toNat_zero Value.oneCell'
abbrev vi (n : Int) : T := .lit (.int .i64 n)
abbrev vb (b : Bool) : T := .lit (.bool b)
end Go.Ab
namespace Go.Ab
mutual
def T.flat : T → Bool
  | .lit _ => true
  | .agg cs => T.flats cs
  | .slice _ _ => false
  | .ptr _ _ => false
  | .fn _ fs cs => T.flats fs && T.flats cs
  | .iface _ x => T.flat x
  | .map _ _ _ _ => false
  | .hole => true
def T.flats : List T → Bool
  | [] => true
  | c :: cs => T.flat c && T.flats cs
end
mutual
theorem RepT.flat {h h' : Hp} : ∀ (x : T) (v : Value), x.flat = true → RepT h x v → RepT h' x v
  | .lit _, _, _, r => r
  | .agg cs, _, hf, r => by
    simp only [T.flat] at hf
    unfold RepT at r ⊢
    obtain ⟨us, e, r, o⟩ := r
    exact ⟨us, e, RepTs.flat cs us hf r, o⟩
  | .slice _ _, _, hf, _ => by simp [T.flat] at hf
  | .ptr _ _, _, hf, _ => by simp [T.flat] at hf
  | .map _ _ _ _, _, hf, _ => by simp [T.flat] at hf
  | .fn f fs cs, _, hf, r => by
    simp only [T.flat, Bool.and_eq_true] at hf
    unfold RepT at r ⊢
    obtain ⟨us, vs, e, r1, r2⟩ := r
    exact ⟨us, vs, e, RepTs.flat fs us hf.1 r1, RepTs.flat cs vs hf.2 r2⟩
  | .hole, _, _, _ => by unfold RepT; trivial
  | .iface t x, _, hf, r => by
    simp only [T.flat] at hf
    unfold RepT at r ⊢
    obtain ⟨v, e, r⟩ := r
    exact ⟨v, e, RepT.flat x v hf r⟩
theorem RepTs.flat {h h' : Hp} : ∀ (xs : List T) (vs : List Value), T.flats xs = true → RepTs h xs vs → RepTs h' xs vs
  | [], _, _, r => r
  | c :: cs, _, hf, r => by
    simp only [T.flats, Bool.and_eq_true] at hf
    unfold RepTs at r ⊢
    obtain ⟨u, us, e, r1, r2⟩ := r
    exact ⟨u, us, e, RepT.flat c u hf.1 r1, RepTs.flat cs us hf.2 r2⟩
end
def E.flat : E → Bool
  | .t x => x.flat
  | .undef => true
  | .tup es => es.all fun | .t x => x.flat | .undef => true | _ => false
  | _ => false
def Out.flat : Out → Bool
  | .ret e => e.flat
  | .pan x => x.flat
theorem RepE.flat {yl yl' : Nat} {ι ι' : Pl} {σ σ' : List AO} {h h' : Hp} {e : E} {v : Value} (hf : e.flat = true) (r : RepE yl ι σ h e v) : RepE yl' ι' σ' h' e v := by
  have one : ∀ {e : E} {v : Value}, (match e with | .t x => x.flat | .undef => true | _ => false) = true → RepE yl ι σ h e v → RepE yl' ι' σ' h' e v := fun {e v} hf r => by
    split at hf
    · unfold RepE at r ⊢; exact RepT.flat _ _ hf r
    · unfold RepE; trivial
    · cases hf
  cases e with
  | t x => exact one hf r
  | undef => exact one rfl r
  | tup es =>
    simp only [E.flat, List.all_eq_true] at hf
    unfold RepE at r ⊢
    obtain ⟨us, e, r⟩ := r
    obtain ⟨hl, hr⟩ := RepEs_iff.1 r
    exact ⟨us, e, RepEs_iff.2 ⟨hl, fun i x u hx hu => one (by have := hf x (List.mem_of_getElem? hx); cases x <;> exact this) (hr i x u hx hu)⟩⟩
  | _ => simp [E.flat] at hf
theorem RepOut.flat {yl yl' : Nat} {ι ι' : Pl} {σ σ' : List AO} {h h' : Hp} {o : Out} {e : Ending} (hf : o.flat = true) (r : RepOut yl ι σ h o e) : RepOut yl' ι' σ' h' o e := by
  cases o with
  | ret x =>
    cases e with
    | returned v => exact RepE.flat hf r
    | panicked c => exact r.elim
    | outgrown => exact r.elim
  | pan x =>
    cases e with
    | returned v => exact r.elim
    | panicked c => obtain ⟨v, e, r⟩ := r; exact ⟨v, e, RepT.flat _ _ hf r⟩
    | outgrown => exact r.elim
theorem ACall.quiet {P : Program} {f : Nat} {args' : List T} {args : List E} {σ : List AO} {R : Out → List AO → Prop} (h : ACall P f (args'.map .t) [] R) (hv : args.map (E.gc [] σ 12) = args'.map .t)
    (hR : ∀ o σ', R o σ' → o.flat = true) : ACall P f args σ fun o σ' => σ' = σ ∧ ∃ σ1, R o σ1 := by
  refine ⟨h.1, fun C k w ι vis D vs hC M r => ?_⟩
  have M1 := M.gc 12 (kp := []) rfl
  have r1 : RepEs C.yl (gcPl [] ι) [] (hp (gcVis [] ι vis) w) (args'.map .t) vs := by
    rw [← hv]
    obtain ⟨hl, hr⟩ := RepEs_iff.1 r
    refine RepEs_iff.2 ⟨by simpa using hl, fun i x u hx hu => ?_⟩
    rw [List.getElem?_map] at hx
    obtain ⟨y, hy, rfl⟩ := Option.map_eq_some_iff.1 hx
    exact gc_ok M 12 12 y u (hr i y u hy hu) rfl
  let C' := C.hide D D w
  have M2 : Mem C' k [] w (gcPl [] ι) (gcVis [] ι vis) D := ⟨M1.glob, M1.inj, M1.own, M1.visLt, M1.DLt, M1.visD, M1.objs, D, M.hist, fun _ h => h, fun b h => ⟨h, .inl h⟩, fun b h => ⟨h, rfl⟩⟩
  refine (h.2 C' k w (gcPl [] ι) (gcVis [] ι vis) D vs hC M2 r1).mono fun e w' ⟨o, σ1, ι1, vis1, D1, hr, M3, u, ud, hout⟩ => ?_
  obtain ⟨D2, h1, h2, h3, h4⟩ := M3.hist
  have hvis : ∀ b, vis b → w'.heap[b]? = w.heap[b]? := fun b hb => by
    have hlt := M.visLt b hb
    obtain ⟨ob, hob⟩ : ∃ ob, w.heap[b]? = some ob := ⟨_, Array.getElem?_eq_getElem hlt⟩
    rw [hob]; exact (u.le b ob ⟨.inl hb, hob⟩).2
  have hown : ∀ i b c, ι i = some (b, c) → w'.heap[b]? = w.heap[b]? := fun i b c hi => by
    have hlt := (M.own i b c hi).2.1
    obtain ⟨ob, hob⟩ : ∃ ob, w.heap[b]? = some ob := ⟨_, Array.getElem?_eq_getElem hlt⟩
    rw [hob]; exact (u.le b ob ⟨.inr ⟨i, c, hi, by simp⟩, hob⟩).2
  have hle : (hp vis w).le (hp vis w') := fun b ob ⟨q1, q2⟩ => ⟨q1, by rw [hvis b q1]; exact q2⟩
  have hD2 : ∀ b, b < w.heap.size → D2 b → D b := fun b hb h => by
    rcases (h3 b h).2 with h | h
    · exact h
    · omega
  refine ⟨o, σ, ι, vis, D2, ⟨rfl, σ1, hr⟩, ⟨M.glob.mono hle, M.inj, fun i b c hi => ?_, fun b hb => Nat.lt_of_lt_of_le (M.visLt b hb) u.size, fun b hb => M3.DLt b (h3 b hb).1, fun b hb h => M.visD b hb (hD2 b (M.visLt b hb) h), fun i ob hi => ?_, h1⟩,
    ⟨Goes.refl _ _, hle, u.size, fun i b c h => .inl ⟨i, c, h⟩, fun _ h => .inl h⟩, ⟨h2, fun b h => (h3 b h).2⟩, RepOut.flat (hR o σ1 hr) hout⟩
  · obtain ⟨q1, q2, q3, q4⟩ := M.own i b c hi
    exact ⟨q1, Nat.lt_of_lt_of_le q2 u.size, q3, fun h => q4 (hD2 b q2 h)⟩
  · have ho := M.objs i ob hi
    cases hp : ι i with
    | none => rw [hp] at ho; exact ho
    | some bc =>
      obtain ⟨b, c⟩ := bc
      rw [hp] at ho
      obtain ⟨ob', q1, q2⟩ := ho
      exact ⟨ob', by rw [hown i b c hp]; exact q1, q2.mono (Goes.refl _ _) hle⟩
mutual
theorem RepE.nil {yl : Nat} {ι ι' : Pl} {σ : List AO} {h : Hp} : ∀ (e : E) (v : Value), RepE yl ι [] h e v → RepE yl ι' σ h e v
  | .t x, v, r => by unfold RepE at r ⊢; exact r
  | .undef, _, _ => by unfold RepE; trivial
  | .ptr _ _, _, r | .elt _ _ _ _ _, _, r | .loc _ _, _, r | .map _, _, r | .iter _, _, r | .sub _ _ _ _ _, _, r => by unfold RepE at r; exact absurd r.1 (Nat.not_lt_zero _)
  | .fn f fs cs, v, r => by
    unfold RepE at r ⊢
    obtain ⟨us, vs, e, r1, r2⟩ := r
    exact ⟨us, vs, e, RepEs.nil fs us r1, RepEs.nil cs vs r2⟩
  | .iface t x, v, r => by
    unfold RepE at r ⊢
    obtain ⟨u, e, r1⟩ := r
    exact ⟨u, e, RepE.nil x u r1⟩
  | .agg cs, v, r => by
    unfold RepE at r ⊢
    obtain ⟨us, e, r1, o⟩ := r
    exact ⟨us, e, RepEs.nil cs us r1, o⟩
  | .tup cs, v, r => by
    unfold RepE at r ⊢
    obtain ⟨us, e, r1⟩ := r
    exact ⟨us, e, RepEs.nil cs us r1⟩
  | .yld, v, r => by unfold RepE at r ⊢; exact r
  | .vp cs off, v, r => by
    unfold RepE at r ⊢
    obtain ⟨b, us, e, r1, o, l⟩ := r
    exact ⟨b, us, e, RepEs.nil cs us r1, o, l⟩
theorem RepEs.nil {yl : Nat} {ι ι' : Pl} {σ : List AO} {h : Hp} : ∀ (es : List E) (vs : List Value), RepEs yl ι [] h es vs → RepEs yl ι' σ h es vs
  | [], _, r => by unfold RepEs at r ⊢; exact r
  | c :: cs, _, r => by
    unfold RepEs at r ⊢
    obtain ⟨u, us, e, r1, r2⟩ := r
    exact ⟨u, us, e, RepE.nil c u r1, RepEs.nil cs us r2⟩
end
theorem RepOut.nil {yl : Nat} {ι ι' : Pl} {σ : List AO} {h : Hp} {o : Out} {e : Ending} (r : RepOut yl ι [] h o e) : RepOut yl ι' σ h o e := by
  cases o with
  | ret x =>
    cases e with
    | returned v => exact RepE.nil x v r
    | panicked c => exact r.elim
    | outgrown => exact r.elim
  | pan x => cases e <;> exact r
theorem ACall.fresh {P : Program} {f : Nat} {args : List T} {σ : List AO} {R : Out → List AO → Prop} (h : ACall P f (args.map .t) [] R) (hR : ∀ o σ', R o σ' → σ' = []) : ACall P f (args.map .t) σ fun o σ' => σ' = σ ∧ R o [] := by
  refine ⟨h.1, fun C k w ι vis D vs hC M r => ?_⟩
  let K : Nat → Prop := fun b => ∃ i c, ι i = some (b, c)
  let D0 : Nat → Prop := fun b => D b ∨ K b
  let C' := C.hide D D0 w
  have r1 : RepEs C.yl (fun _ => none) [] (hp vis w) (args.map .t) vs := by
    obtain ⟨hl, hr⟩ := RepEs_iff.1 r
    refine RepEs_iff.2 ⟨hl, fun i x u hx hu => ?_⟩
    have := hr i x u hx hu
    rw [List.getElem?_map] at hx
    obtain ⟨y, hy, rfl⟩ := Option.map_eq_some_iff.1 hx
    unfold RepE at this ⊢
    exact this
  have M2 : Mem C' k [] w (fun _ => none) vis D0 := by
    refine ⟨M.glob, fun i j b c c' h => (by cases h), fun i b c h => (by cases h), M.visLt, fun b hb => ?_, fun b hb h => ?_, fun i o hi => (by simp at hi), D, M.hist, fun _ h => h, fun b h => ⟨.inl h, .inl h⟩, fun b h => ⟨h, rfl⟩⟩
    · rcases hb with hb | ⟨i, c, hi⟩
      · exact M.DLt b hb
      · exact (M.own i b c hi).2.1
    · rcases h with h | ⟨i, c, hi⟩
      · exact M.visD b hb h
      · exact (M.own i b c hi).2.2.1 hb
  refine (h.2 C' k w (fun _ => none) vis D0 vs hC M2 r1).mono fun e w' ⟨o, σ1, ι1, vis1, D1, hr, M3, u, ud, hout⟩ => ?_
  obtain rfl := hR o σ1 hr
  obtain ⟨D2, h1, h2, h3, h4⟩ := M3.hist
  have hD2 : ∀ b, b < w.heap.size → D2 b → D b := fun b hb h => by
    rcases (h3 b h).2 with h | h
    · exact h
    · omega
  have hvisnew : ∀ b, vis1 b → vis b ∨ w.heap.size ≤ b := fun b hb => by
    rcases u.vis b hb with h | h | ⟨j, c, h⟩
    · exact .inl h
    · exact .inr h
    · cases h
  refine ⟨o, σ, ι, vis1, D2, ⟨rfl, hr⟩, ⟨M3.glob, M.inj, fun i b c hi => ?_, M3.visLt, fun b hb => M3.DLt b (h3 b hb).1, fun b hb h => M3.visD b hb (h3 b h).1, fun i ob hi => ?_, h1⟩,
    ⟨Goes.refl _ _, u.le, u.size, fun i b c h => .inl ⟨i, c, h⟩, fun b hb => by
      rcases hvisnew b hb with h | h
      · exact .inl h
      · exact .inr (.inl h)⟩, ⟨h2, fun b h => (h3 b h).2⟩, RepOut.nil hout⟩
  · obtain ⟨q1, q2, q3, q4⟩ := M.own i b c hi
    exact ⟨q1, Nat.lt_of_lt_of_le q2 u.size, fun h => by
      rcases hvisnew b h with h | h
      · exact q3 h
      · omega, fun h => q4 (hD2 b q2 h)⟩
  · have ho := M.objs i ob hi
    cases hp : ι i with
    | none => rw [hp] at ho; exact ho
    | some bc =>
      obtain ⟨b, c⟩ := bc
      rw [hp] at ho
      obtain ⟨ob', q1, q2⟩ := ho
      exact ⟨ob', by rw [(h4 b (.inr ⟨i, c, hp⟩)).2]; exact q1, q2.mono (Goes.refl _ _) u.le⟩
end Go.Ab
namespace Go.Ab
def modeIn (px : Option T) (v : Value) : FrameMode := match px with | some _ => .panicking [{ v, recovered := false }] | none => .returning
def modeOut (px : Option T) (v : Value) : FrameMode := match px with | some _ => .panicking [{ v, recovered := true }] | none => .returning
def pxT (px : Option T) : T := match px with | some x => x | none => .lit .nilIface
def pxV (px : Option T) (v : Value) : Value := match px with | some _ => v | none => .nilIface
def pxF (px : Option T) (v : Value) (c : Frame) : Frame := match px with | some _ => { c with mode := .panicking [{ v, recovered := true }] } | none => c
def ADef (P : Program) (f : Nat) (args : List E) (σ : List AO) (px : Option T) (R : List AO → Prop) : Prop :=
  Plain P f ∧ ∀ (C : Cx) (k : Nat) (w : World) (ι : Pl) (vis D : Nat → Prop) (vs : List Value) (v : Value), C.P = P → Mem C k σ w ι vis D → RepEs C.yl ι σ (hp vis w) args vs → (∀ x, px = some x → RepT (hp vis w) x v) →
    CallsDIn Fence.wide 0 P f vs.toArray (modeIn px v) w fun e u w' => (∃ r, e = .returned r) ∧
      u = (modeOut px v) ∧ ∃ σ' ι' vis' D', R σ' ∧ Mem C k σ' w' ι' vis' D' ∧ Up ι σ vis w ι' σ' vis' w' ∧ UpD D w D'
structure FnA (P : Program) (f : Nat) (nt : Nat) (d d' : Nat) (ac : AC) (na : Nat) : Prop where
  get : ∃ (fn : Func) (id : Nat) (r m : Oper) (ats : Array TypeId) (rest : Code), P.funcs[f]? = some fn ∧ fn.body = some (.seq (.region id #[r, m] false) rest) ∧ (fn.name == "runtime.NumGoroutine") = false ∧ fn.ntmps = nt ∧ na ≤ nt ∧ fn.results = #[] ∧
    r.op = .call { callee := .builtin .recover, args := #[], argTypes := ats } ∧ r.dst = some d ∧ r.guard = none ∧ m.op = .assign (.tmp d) ∧ m.dst = some d' ∧ m.guard = none ∧ d < nt ∧ d' < nt ∧ compC P nt [] [] rest = some ac
def finA (R : List AO → Prop) : Ex → St → Prop
  | .normal, s | .ret, s => s.df = [] ∧ s.k = 0 ∧ R s.σ
  | _, _ => False
theorem ADef.intro {P : Program} {f nt d d' na : Nat} {ac : AC} {args : List E} {σ : List AO} {px : Option T} {R : List AO → Prop} (hf : FnA P f nt d d' ac na) (ha : args.length = na)
    (h : awp { P := P, nb := σ.length } ac (finA R) { env := (d', .t (pxT px)) :: (d, .t (pxT px)) :: argEnv 0 args, σ := σ }) : ADef P f args σ px R := by
  obtain ⟨fn, id, rr, m, ats, rest, h1, h2, h3, rfl, h4, h5, g1, g2, g3, g4, g5, g6, g7, g8, h6⟩ := hf.get
  refine ⟨⟨fn, h1, by rw [h2]; rfl, h3⟩, ?_⟩
  intro C0 k w ι vis D vs v hC M0 r hpx
  subst hC
  have he : RepT (hp vis w) (pxT px) (pxV px v) := by
    cases px with
    | none => unfold pxT pxV RepT; rfl
    | some x => exact hpx x rfl
  refine callsDIn_of_wpSIn h1 h2 trivial fun c₀ cs hmode => ?_
  have X := InvX.enter (nt := fn.ntmps) M0 r (by omega)
  generalize ({ tmps := vs.toArray ++ Array.replicate (fn.ntmps - vs.toArray.size) undef, defers := [] } : Act) = a at X ⊢
  -- the first region
  have X' : InvX { C0 with k0 := k, nt := fn.ntmps, sz0 := w.heap.size } { env := (d', .t (pxT px)) :: (d, .t (pxT px)) :: argEnv 0 args, σ := σ } ((a.put (some d) (pxV px v)).put (some d')  (pxV px v)) w ι vis D := by
    have r1 : RepE C0.yl ι σ (hp vis w) (.t (pxT px)) (pxV px v) := by unfold RepE; exact he
    exact (X.put (d := some d) (by simpa [dstOK] using g7) r1).put (d := some d') (by simpa [dstOK] using g8) r1
  have hsz := X.sz
  have hrest : rest.wpSIn Fence.wide 0 C0.P (bodyPostS C0.P fn c₀ cs fun e u w' => (∃ r, e = .returned r) ∧ u = (modeOut px v) ∧ ∃ σ' ι' vis' D', R σ' ∧ Mem C0 k σ' w' ι' vis' D' ∧ Up ι σ vis w ι' σ' vis' w' ∧ UpD D w D')
      ((a.put (some d) (pxV px v)).put (some d') (pxV px v)) (pxF px v c₀ :: cs) w := by
    refine wpSIn_of_wpIn rfl ?_
    have hs := awp_sound rest { P := C0.P, nb := σ.length } { C0 with k0 := k, nt := fn.ntmps, sz0 := w.heap.size } ι σ vis D w [] yok_no rfl (Nat.le_refl _) ac h6 _ _ _ w ι vis D X' (UpN.refl (Nat.le_refl _) ι vis w) (UpD.refl _ _) h
    refine wpIn_mono hs fun e a' w' ⟨s', ι', vis', D', ex, hx, hq, X', U, ud⟩ => ?_
    have hret : (s'.df = [] ∧ s'.k = 0 ∧ R s'.σ) → a'.defers = [] ∧ ∃ u', (pxF px v c₀ :: cs) = { c₀ with mode := u' } :: cs ∧ ∃ v', (results fn a'.tmps).run C0.P w' = .ok v' w' ∧
        ((∃ r, Ending.returned v' = .returned r) ∧ u' = (modeOut px v) ∧ ∃ σ' ι' vis' D', R σ' ∧ Mem C0 k σ' w' ι' vis' D' ∧ Up ι σ vis w ι' σ' vis' w' ∧ UpD D w D') := by
      rintro ⟨q1, q2, q5⟩
      refine ⟨by have := X'.df; rw [q1] at this; exact this, (modeOut px v), ?_, .tuple #[], ?_, ⟨_, rfl⟩, rfl, s'.σ, ι', vis', D', q5, ?_, ?_, ud⟩
      · cases px with
        | some x => rfl
        | none => simp only [modeIn] at hmode; simp only [pxF, modeOut, ← hmode]
      · rw [results_eq, h5]; simp
      · have M' := X'.mem
        rw [q2] at M'
        exact ⟨M'.glob, M'.inj, M'.own, M'.visLt, M'.DLt, M'.visD, M'.objs, M'.hist⟩
      · exact U.up
    cases e <;> cases ex <;> first | exact hx.elim | exact hq.elim | skip
    · exact hret hq
    · exact hret hq
  refine wpSIn_seq (wpSIn_region ?_)
  have hw0 : Region.wanted rr (yielded #[rr, m] a.tmps) = true := by unfold Region.wanted; rw [g3]
  have hr0 : (execOp a.eval rr).run C0.P w = .ok .recover w := by
    unfold execOp
    simp only [g1]
    simp [resolve, invoke, builtin]
  have hw1 : ∀ a : Act, Region.wanted m (yielded #[rr, m] a.tmps) = true := fun a => by unfold Region.wanted; rw [g6]
  have hr1 : ∀ (a : Act), d < a.tmps.size → (execOp (a.put (some d) (pxV px v)).eval m).run C0.P w = .ok (.value (pxV px v)) w := fun a hd => by
    unfold execOp
    simp only [g4]
    simp [Act.eval, Act.put, hd]
  have hcs : (match recoverD (c₀ :: cs) with | some (v, cs2) => (v, cs2) | none => (.nilIface, c₀ :: cs)) = (pxV px v, pxF px v c₀ :: cs) := by
    cases px with
    | some x => simp only [modeIn] at hmode; simp only [recoverD, hmode]; rfl
    | none => simp only [modeIn] at hmode; simp only [recoverD, hmode]; rfl
  have tail : ∀ cs1 pv1, (pv1, cs1) = (pxV px v, pxF px v c₀ :: cs) → wpOpsSIn Fence.wide 0 C0.P #[rr, m] (Exit.thenS (rest.wpSIn Fence.wide 0 C0.P (bodyPostS C0.P fn c₀ cs fun e u w' => (∃ r, e = .returned r) ∧ u = (modeOut px v) ∧ ∃ σ' ι' vis' D', R σ' ∧ Mem C0 k σ' w' ι' vis' D' ∧ Up ι σ vis w ι' σ' vis' w' ∧ UpD D w D'))
      (bodyPostS C0.P fn c₀ cs fun e u w' => (∃ r, e = .returned r) ∧ u = (modeOut px v) ∧ ∃ σ' ι' vis' D', R σ' ∧ Mem C0 k σ' w' ι' vis' D' ∧ Up ι σ vis w ι' σ' vis' w' ∧ UpD D w D')) [1] (a.put (some d) pv1) cs1 w := fun cs1 pv1 heq => by
    cases heq
    simp only [wpOpsSIn, List.getElem?_toArray, List.getElem?_cons_succ, List.getElem?_cons_zero]
    refine ⟨fun _ _ => trivial, ?_⟩
    rw [if_pos (hw1 _), hr1 a (by rw [hsz]; exact g7), g5]
    exact hrest
  show wpOpsSIn _ _ _ _ _ [0, 1] a (c₀ :: cs) w
  rw [wpOpsSIn]
  simp only [List.getElem?_toArray, List.getElem?_cons_zero]
  refine ⟨fun _ _ => trivial, ?_⟩
  rw [if_pos hw0, hr0, g2]
  simp only
  split
  · rename_i v1 cs1 hrec
    rw [hrec] at hcs
    exact tail cs1 v1 hcs
  · rename_i hrec
    rw [hrec] at hcs
    exact tail _ _ hcs
def finR (nb : Nat) (rs : List RV) (R : Out → List AO → Prop) (s : St) (σ' : List AO) : Prop :=
  ∃ e, resV rs { s with σ := σ' } = some e ∧ ∃ kp, gcOK kp σ' = true ∧ keepsBase nb kp = true ∧ R (.ret (e.gc kp σ' 12)) (σgc kp σ' 12)
def finD (P : Program) (nb : Nat) (rs : List RV) (R : Out → List AO → Prop) : Ex → St → Prop
  | .normal, s | .ret, s => ∃ f args, s.df = [.call f args] ∧ s.k = 0 ∧ ADef P f args s.σ none (finR nb rs R s)
  | .pan x, s => ∃ f args, s.df = [.call f args] ∧ s.k = 0 ∧ ADef P f args s.σ (some x) (finR nb rs R s)
  | _, _ => False
theorem ACall.introD {P : Program} {f nt na : Nat} {pn gp : List Nat} {rs : List RV} {ac : AC} {args : List E} {σ : List AO} {R : Out → List AO → Prop} (hf : FnC P f nt pn gp rs ac na) (ha : args.length = na)
    (h : awp { P := P, nb := σ.length, pn := pn } ac (finD P σ.length rs R) { env := argEnv 0 args, σ := σ }) : ACall P f args σ R := by
  obtain ⟨fn, c, h1, h2, h3, rfl, h4, h5, h6⟩ := hf.get
  refine ⟨⟨fn, h1, by rw [h2]; rfl, h3⟩, ?_⟩
  intro C0 k w ι vis D vs hC M0 r
  subst hC
  refine callsIn_of_wp_defers h1 h2 trivial ?_ rfl
  have X := InvX.enter (nt := fn.ntmps) M0 r (by omega)
  have hs := awp_sound c { P := C0.P, nb := σ.length, pn := pn } { C0 with k0 := k, nt := fn.ntmps, sz0 := w.heap.size } ι σ vis D w gp yok_no rfl (Nat.le_refl _) ac h6 _ _ _ w ι vis D X (UpN.refl (Nat.le_refl _) ι vis w) (UpD.refl _ _) h
  refine wpIn_mono hs fun e a' w' ⟨s', ι', vis', D', ex, hx, hq, X', U, ud⟩ => ?_
  -- one deferred call
  have go : ∀ (f' : Nat) (args' : List E) (px : Option T) (pv : Value), s'.df = [.call f' args'] → s'.k = 0 → (∀ x, px = some x → RepT (hp vis' w') x pv) → ADef C0.P f' args' s'.σ px (finR σ.length rs R s') →
      LeavesIn Fence.wide 0 C0.P fn a'.tmps (fun e w' => ∃ o σ' ι' vis' D', R o σ' ∧ Mem C0 k σ' w' ι' vis' D' ∧ Up ι σ vis w ι' σ' vis' w' ∧ UpD D w D' ∧ RepOut C0.yl ι' σ' (hp vis' w') o e) a'.defers
        (modeIn px pv) w' := by
    intro f' args' px pv hdf hk hpx ⟨hpl, hD⟩
    have h7 := X'.df
    rw [hdf] at h7
    obtain ⟨d', l', hl, ⟨vs', cs', rfl, rvs⟩, _, hnil⟩ := h7
    cases hnil
    rw [hl]
    obtain ⟨fn', q1, q2, q3⟩ := hpl
    obtain ⟨b', hb'⟩ := Option.isSome_iff_exists.1 q2
    have hM : Mem { C0 with k0 := k, nt := fn.ntmps, sz0 := w.heap.size } (k + s'.k) s'.σ w' ι' vis' D' := X'.mem
    rw [hk] at hM
    have hc := hD { C0 with k0 := k, nt := fn.ntmps, sz0 := w.heap.size } k w' ι' vis' D' (vs' ++ cs') pv rfl hM rvs hpx
    simp only [beq_eq_false_iff_ne] at q3
    refine leavesIn_cons (by cases px <;> simp [modeIn]) (by simp [Fence.wide]) (f := f') (args := (vs' ++ cs').toArray) (by simp [invoke, callFunc, q1, hb', q3]) (fun _ _ => trivial) ?_
    refine hc.mono fun e u w'' ⟨⟨r, hr⟩, hu, σ2, ι2, vis2, D2, ⟨e', he', kp, hkp, hkb, hR⟩, M2, u2, ud2⟩ => ?_
    subst hr
    subst hu
    have hset : settle (modeOut px pv) = .returning := by cases px <;> rfl
    simp only [hset]
    -- the results are read
    have X2 : InvX { C0 with k0 := k, nt := fn.ntmps, sz0 := w.heap.size } { env := s'.env, σ := σ2, df := [], k := 0 } { a' with defers := [] } w'' ι2 vis2 D2 := ⟨M2, X'.sz, fun i => (X'.env i).mono u2.goes u2.le, rfl⟩
    obtain ⟨v, hv, rv⟩ := resV_ok (C := { C0 with k0 := k, nt := fn.ntmps, sz0 := w.heap.size }) X2 (fn := fn) h5 (e := e') (by rw [← he']; exact (resV_df (s := { env := s'.env, σ := σ2, df := s'.df, k := 0 })).symm ▸ by rw [← hk])
    have M3 := M2.gc 12 hkp
    have U2 : UpN σ.length ι σ vis w ι2 σ2 vis2 w'' := U.trans (UpN.of U.len' u2)
    exact ⟨v, hv, _, σgc kp σ2 12, gcPl kp ι2, gcVis kp ι2 vis2, D2, hR, ⟨M3.glob, M3.inj, M3.own, M3.visLt, M3.DLt, M3.visD, M3.objs, M3.hist⟩, (U2.trans (UpN.gc (s := { env := [], σ := σ2 }) (lv := []) (UpN.refl U2.len' _ _ _) hkb)).up,
      ud.trans ud2 U.size, gc_ok M2 12 12 e' v rv rfl⟩
  cases e <;> cases ex <;> first | exact hx.elim | skip
  · obtain ⟨f', args', q1, q2, q3⟩ := hq
    exact go f' args' none .nilIface q1 q2 (fun _ h => by cases h) q3
  · exact hq.elim
  · obtain ⟨f', args', q1, q2, q3⟩ := hq
    exact go f' args' none .nilIface q1 q2 (fun _ h => by cases h) q3
  · obtain ⟨f', args', q1, q2, q3⟩ := hq
    obtain ⟨v, rfl, rv⟩ := hx
    exact go f' args' (some _) v q1 q2 (fun _ h => by cases h; exact rv) q3
def finDL (P : Program) (nb : Nat) [rs : Lz (List RV)] [R : Lz (Out → List AO → Prop)] (e : Ex) (s : St) : Prop := finD P nb rs.get R.get e s
def finAL [R : Lz (List AO → Prop)] (e : Ex) (s : St) : Prop := finA R.get e s
section
variable {P : Program} {nb : Nat} {rs : Lz (List RV)} {R : Lz (Out → List AO → Prop)} {s : St}
theorem finDL_exit {i : Nat} : @finDL P nb rs R (.exit i) s = False := propext Iff.rfl
theorem finDL_ret {f : Nat} {args : List E} (h1 : s.df = [.call f args]) (h2 : s.k = 0) (h3 : ADef P f args s.σ none (finR nb rs.get R.get s)) : @finDL P nb rs R .ret s := ⟨f, args, h1, h2, h3⟩
theorem finDL_pan {x : T} {f : Nat} {args : List E} (h1 : s.df = [.call f args]) (h2 : s.k = 0) (h3 : ADef P f args s.σ (some x) (finR nb rs.get R.get s)) : @finDL P nb rs R (.pan x) s := ⟨f, args, h1, h2, h3⟩
variable {RA : Lz (List AO → Prop)}
theorem finAL_normal : @finAL RA .normal s = (s.df = [] ∧ s.k = 0 ∧ RA.get s.σ) := propext Iff.rfl
end
attribute [go_sem]  finDL_exit finAL_normal 
theorem ACall.walkD {P : Program} {f nt na : Nat} {pn gp : List Nat} {rs : List RV} {ac : AC} {args : List E} {σ : List AO} {R : Out → List AO → Prop} (hf : FnC P f nt pn gp rs ac na)
    (h : @awpL { P := P, nb := σ.length, pn := pn } ⟨ac⟩ ⟨fun e s => @finDL P σ.length ⟨rs⟩ ⟨R⟩ e s⟩ { env := argEnv 0 args, σ := σ, df := [], k := 0 }) (ha : args.length = na := by rfl) : ACall P f args σ R := ACall.introD hf ha h
theorem ADef.walk {P : Program} {f nt d d' na : Nat} {ac : AC} {args : List E} {σ : List AO} {px : Option T} {R : List AO → Prop} (hf : FnA P f nt d d' ac na)
    (h : @awpL { P := P, nb := σ.length } ⟨ac⟩ ⟨fun e s => @finAL ⟨R⟩ e s⟩ { env := (d', .t (pxT px)) :: (d, .t (pxT px)) :: argEnv 0 args, σ := σ, df := [], k := 0 }) (ha : args.length = na := by rfl) : ADef P f args σ px R := ADef.intro hf ha h
theorem ADef.mono {P : Program} {f : Nat} {args : List E} {σ : List AO} {px : Option T} {R R' : List AO → Prop} (h : ADef P f args σ px R) (hr : ∀ σ, R σ → R' σ) : ADef P f args σ px R' :=
  ⟨h.1, fun C k w ι vis D vs v hC M r hp => (h.2 C k w ι vis D vs v hC M r hp).mono fun _ _ _ ⟨h1, h2, σ', ι', vis', D', h3, h4⟩ => ⟨h1, h2, σ', ι', vis', D', hr _ h3, h4⟩⟩
end Go.Ab
namespace Go.Ab
theorem AGen.intro {P : Program} {f nt na : Nat} {pn gp : List Nat} {rs : List RV} {ac : AC} {args : List E} {L : List Value} {sk : Option Nat} (hf : FnC P f nt pn gp rs ac na) (ha : args.length = na)
    (h : awp { P := P, nb := 0, pn := pn, yp := fun j v => L[j]? = some v, sk := sk } ac (fun e s => (s.k = L.length ∨ sk = some s.k) ∧ fin s.k 0 rs (fun o _ => ∃ e, o = .ret e) e s) { env := argEnv 0 args, σ := [] }) : AGen P f args L sk := by
  obtain ⟨fn, c, h1, h2, h3, rfl, h4, h5, h6⟩ := hf.get
  refine ⟨⟨fn, h1, by rw [h2]; rfl, h3⟩, ?_⟩
  intro C0 w ι vis D vs hC hY M0 r
  subst hC
  have hcall : CallsIn Fence.wide 0 C0.P f vs.toArray w (fun e w' => ∃ m, (m = L.length ∨ sk = some m) ∧ CallPost C0 (0 + m) w ι [] vis D (fun o _ => ∃ e, o = .ret e) e w') := by
    refine callsIn_of_wp_marks h1 h2 trivial ?_ rfl
    have X := InvX.enter (nt := fn.ntmps) M0 r (by omega)
    have hY' : YOK { C0 with k0 := 0, nt := fn.ntmps, sz0 := w.heap.size } vis w (fun j v => L[j]? = some v) sk := hY
    have hs := awp_sound c { P := C0.P, nb := 0, pn := pn, yp := fun j v => L[j]? = some v, sk := sk } { C0 with k0 := 0, nt := fn.ntmps, sz0 := w.heap.size } ι [] vis D w gp hY' rfl (Nat.le_refl _) ac h6 _ _ _ w ι vis D X (UpN.refl (nb := 0) (σ := []) (Nat.zero_le _) ι vis w) (UpD.refl _ _) h
    refine wpIn_mono hs fun e a' w' ⟨s', ι', vis', D', ex, hx, hq, hl⟩ => ?_
    exact fin_leaves (k := 0) (kn := s'.k) h5 M0 (fun e w' hp => ⟨s'.k, hq.1, hp⟩) ⟨s', ι', vis', D', ex, hx, hq.2, hl⟩
  have conv : ∀ e w', (∃ m, (m = L.length ∨ sk = some m) ∧ CallPost C0 (0 + m) w ι [] vis D (fun o _ => ∃ e, o = .ret e) e w') → ∃ m σ' ι' vis' D', (((∃ v, e = .returned v) ∧ (m = L.length ∨ sk = some m)) ∨ ∃ x, (none : Option (Nat × T)) = some (m, x) ∧ PanV x e) ∧ Mem C0 m σ' w' ι' vis' D' ∧ Up ι [] vis w ι' σ' vis' w' ∧ UpD D w D' := fun e w' ⟨m, hm, o, σ', ι', vis', D', ⟨x, ho⟩, hmem, hu, hud, hout⟩ => by
    subst ho
    rw [Nat.zero_add] at hmem
    refine ⟨m, σ', ι', vis', D', .inl ⟨?_, hm⟩, hmem, hu, hud⟩
    cases e with
    | returned v => exact ⟨v, rfl⟩
    | panicked c => exact hout.elim
    | outgrown => exact hout.elim
  exact hcall.mono conv
theorem AGen.walk {P : Program} {f nt na : Nat} {pn gp : List Nat} {rs : List RV} {ac : AC} {args : List E} {L : List Value} (hf : FnC P f nt pn gp rs ac na)
    (h : @awpL { P := P, nb := 0, pn := pn, yp := fun j v => L[j]? = some v } ⟨ac⟩ ⟨fun e s => @finL L.length 0 ⟨rs⟩ ⟨fun o _ => ∃ e, o = .ret e⟩ e s⟩ { env := argEnv 0 args, σ := [], df := [], k := 0 }) (ha : args.length = na := by rfl) : AGen P f args L :=
  AGen.intro hf ha (awp_mono ac (fun e s hq => by
    have hk : s.k = L.length := by
      cases e with
      | normal => exact hq.2.1
      | ret => exact hq.2.1
      | pan x => exact hq.2.1
      | exit i => exact hq.elim
    refine ⟨.inl hk, ?_⟩
    rw [hk]
    exact hq) h)
def finS (n : Nat) (rs : List RV) (e : Ex) (s : St) : Prop := (s.k = n ∨ s.k = n + 1) ∧ @finL s.k 0 ⟨rs⟩ ⟨fun o _ => ∃ e, o = .ret e⟩ e s
theorem finS_ret {n : Nat} {rs : List RV} {s : St} (hk : s.k = n ∨ s.k = n + 1) (kp : List Nat) (h : s.df.all (fun d => d matches .mark) = true ∧ gcOK kp s.σ = true ∧ ∃ e, resV rs s = some e) : finS n rs .ret s :=
  ⟨hk, finL_ret kp ⟨h.1, rfl, h.2.1, by cases kp <;> rfl, let ⟨e, h5⟩ := h.2.2; ⟨e, h5, _, rfl⟩⟩⟩
theorem AGen.walkS {P : Program} {f nt na : Nat} {pn gp : List Nat} {rs : List RV} {ac : AC} {args : List E} {L : List Value} (hf : FnC P f nt pn gp rs ac na)
    (h : @awpL { P := P, nb := 0, pn := pn, yp := fun j v => L[j]? = some v, sk := some (L.length + 1) } ⟨ac⟩ ⟨fun e s => finS L.length rs e s⟩ { env := argEnv 0 args, σ := [], df := [], k := 0 }) (ha : args.length = na := by rfl) : AGen P f args L (stp true L) :=
  AGen.intro hf ha (awp_mono ac (fun e s hq => ⟨hq.1.imp id fun h => by rw [h]; rfl, hq.2⟩) h)
theorem awpL_rangeF {W : W} {Q : Lz (Ex → St → Prop)} {s : St} {g : Opd} {p : Nat} {asg body : AC} {f : Nat} {fs cs : List T} (L : List Value) (inv : Nat → List AO → Prop) (kp lv : List Nat) (hro : W.ro = none) (hg : g.ev s.env = .t (.fn (.func f) fs cs))
    (hgen : AGen W.P f (fs.map .t ++ .yld :: cs.map .t) L) (h1 : gcOK kp s.σ = true) (h2 : keepsBase W.nb kp = true) (h3 : inv 0 (σgc kp s.σ 12))
    (hr : ∀ l j v σ, L[j]? = some v → inv j σ → @awpL { P := W.P, nb := kp.length, pn := [], ro := some l, yp := fun _ _ => False } ⟨asg⟩
        ⟨fun e s1 => match e with | .normal => @awpL { P := W.P, nb := kp.length, pn := [], ro := some l, yp := fun _ _ => False } ⟨body⟩ ⟨fun e s' => match e with | .normal => s'.df = [] ∧ s'.k = s.k ∧ ∃ kp', gcOK kp' s'.σ = true ∧ keepsBase kp.length kp' = true ∧ inv (j + 1) (σgc kp' s'.σ 12) | _ => False⟩ s1 | _ => False⟩
        { env := (p, .t (T.ofV v)) :: (s.gc kp lv).env, σ := σ, df := [], k := s.k })
    (hq : ∀ σ, inv L.length σ → Q.get .normal { s.gc kp lv with σ := σ, df := .mark :: (s.gc kp lv).df }) : @awpL W ⟨.rangeF g p asg body⟩ Q s :=
  ⟨hro, f, fs, cs, L, inv, kp, lv, false, fun _ _ => False, hg, hgen, h1, h2, h3, fun l j v σ hv hi => awp_mono asg (fun e s1 h => by
    cases e with
    | normal => exact awp_mono body (fun e s' h => by
        cases e with
        | normal => exact h
        | _ => exact h.elim) h
    | _ => exact h.elim) (hr l j v σ hv hi), hq, fun _ _ h => h.elim⟩
theorem awpL_rangeS {W : W} {Q : Lz (Ex → St → Prop)} {s : St} {g : Opd} {p : Nat} {asg body : AC} {f : Nat} {fs cs : List T} (L : List Value) (inv : Nat → List AO → Prop) (S : Ex → List AO → Prop) (kp lv : List Nat) (envg : List (Nat × E)) (dfg : List Df) (hg1 : (s.gc kp lv).env = envg) (hg2 : (s.gc kp lv).df = dfg) (hro : W.ro = none) (hg : g.ev s.env = .t (.fn (.func f) fs cs))
    (hgen : AGen W.P f (fs.map .t ++ .yld :: cs.map .t) L (stp true L)) (h1 : gcOK kp s.σ = true) (h2 : keepsBase W.nb kp = true) (h3 : inv 0 (σgc kp s.σ 12))
    (hr : ∀ l j v σ, L[j]? = some v → inv j σ → @awpL { P := W.P, nb := kp.length, pn := [], ro := some l, yp := fun _ _ => False } ⟨asg⟩
        ⟨fun e s1 => match e with | .normal => @awpL { P := W.P, nb := kp.length, pn := [], ro := some l, yp := fun _ _ => False } ⟨body⟩ ⟨fun e s' => match e with | .normal => s'.df = [] ∧ s'.k = s.k ∧ ∃ kp', gcOK kp' s'.σ = true ∧ keepsBase kp.length kp' = true ∧ inv (j + 1) (σgc kp' s'.σ 12) | .pan _ => False | e => s'.df = [] ∧ s'.k = s.k ∧ ∃ kp', gcOK kp' s'.σ = true ∧ keepsBase kp.length kp' = true ∧ S e (σgc kp' s'.σ 12)⟩ s1 | _ => False⟩
        { env := (p, .t (T.ofV v)) :: envg, σ := σ, df := [], k := s.k })
    (hq : ∀ σ, inv L.length σ → Q.get .normal { env := envg, σ := σ, df := .mark :: dfg, k := s.k }) (hS : ∀ e σ, S e σ → Q.get e { env := envg, σ := σ, df := .mark :: dfg, k := s.k }) : @awpL W ⟨.rangeF g p asg body⟩ Q s := by
  subst hg1
  subst hg2
  exact ⟨hro, f, fs, cs, L, inv, kp, lv, true, S, hg, hgen, h1, h2, h3, fun l j v σ hv hi => awp_mono asg (fun e s1 h => by
    cases e with
    | normal => exact awp_mono body (fun e s' h => by
        cases e with
        | normal => exact h
        | pan _ => exact h
        | exit _ => exact ⟨rfl, h⟩
        | ret => exact ⟨rfl, h⟩) h
    | _ => exact h.elim) (hr l j v σ hv hi), hq, hS⟩
end Go.Ab
namespace Go.Ab
mutual
def E.ren (ρ : Nat → Nat) : E → E
  | .t x => .t x
  | .undef => .undef
  | .ptr id off => .ptr (ρ id) off
  | .elt id n es i off => .elt (ρ id) n es i off
  | .loc id n => .loc (ρ id) n
  | .map id => .map (ρ id)
  | .iter id => .iter (ρ id)
  | .fn f fs cs => .fn f (E.rens ρ fs) (E.rens ρ cs)
  | .iface ty x => .iface ty (E.ren ρ x)
  | .agg cs => .agg (E.rens ρ cs)
  | .tup cs => .tup (E.rens ρ cs)
  | .yld => .yld
  | .vp cs off => .vp (E.rens ρ cs) off
  | .sub id n es lo len => .sub (ρ id) n es lo len
def E.rens (ρ : Nat → Nat) : List E → List E
  | [] => []
  | e :: es => E.ren ρ e :: E.rens ρ es
end
def AO.ren (ρ : Nat → Nat) : AO → AO
  | .cells cs => .cells (E.rens ρ cs)
  | .row es xs => .row es (E.rens ρ xs)
  | .map sh ks xs clk => .map sh ks xs clk
  | .iter m since seen last => .iter (E.ren ρ m) since seen last
  | .raw o => .raw o
def Out.ren (ρ : Nat → Nat) : Out → Out
  | .ret e => .ret (e.ren ρ)
  | .pan x => .pan x
def lendR (kp : List Nat) (n : Nat) (j : Nat) : Nat := match kp[j]? with
  | some i => i
  | none => n + (j - kp.length)
def lendB : List AO → List Nat → List AO → List AO
  | σ, [], os => σ ++ os
  | σ, k :: ks, o :: os => lendB (σ.set k o) ks os
  | σ, _ :: _, [] => σ
theorem E.rens_map (ρ : Nat → Nat) : ∀ es : List E, E.rens ρ es = es.map (E.ren ρ)
  | [] => rfl
  | e :: es => by simp only [E.rens, List.map_cons, E.rens_map ρ es]
theorem AO.len?_ren (ρ : Nat → Nat) (o : AO) : (o.ren ρ).len? = o.len? := by cases o <;> simp [AO.ren, AO.len?, E.rens_map]
structure Tell (ρ : Nat → Nat) (ι0 : Pl) (σ0 : List AO) (ι : Pl) (σ : List AO) : Prop where
  lt : ∀ j, j < σ0.length → ρ j < σ.length
  len : ∀ j, j < σ0.length → rowLen σ (ρ j) = rowLen σ0 j
  pl : ∀ j, j < σ0.length → ι (ρ j) = ι0 j
mutual
theorem RepE.tell {yl : Nat} {ρ : Nat → Nat} {ι0 ι : Pl} {σ0 σ : List AO} {h : Hp} (t : Tell ρ ι0 σ0 ι σ) : ∀ (e : E) (v : Value), RepE yl ι0 σ0 h e v → RepE yl ι σ h (e.ren ρ) v
  | .t x, v, r => by unfold E.ren; unfold RepE at r ⊢; exact r
  | .undef, _, _ => by unfold E.ren RepE; trivial
  | .ptr id off, v, r => by
    unfold E.ren; unfold RepE at r ⊢
    obtain ⟨h1, h2, h3⟩ := r
    exact ⟨t.lt id h1, by rw [t.len id h1]; exact h2, by rw [t.pl id h1]; exact h3⟩
  | .elt id n es i off, v, r => by
    unfold E.ren; unfold RepE at r ⊢
    obtain ⟨h1, h2, h3, h4, h5⟩ := r
    exact ⟨t.lt id h1, by rw [t.len id h1]; exact h2, by rw [t.len id h1]; exact h3, h4, by rw [t.len id h1, t.pl id h1]; exact h5⟩
  | .loc id n, v, r => by
    unfold E.ren; unfold RepE at r ⊢
    obtain ⟨h1, h2, h3, h4, h5⟩ := r
    exact ⟨t.lt id h1, by rw [t.len id h1]; exact h2, by rw [t.len id h1]; exact h3, h4, by rw [t.len id h1, t.pl id h1]; exact h5⟩
  | .map id, v, r => by
    unfold E.ren; unfold RepE at r ⊢
    obtain ⟨h1, h2, h3⟩ := r
    exact ⟨t.lt id h1, by rw [t.len id h1]; exact h2, by rw [t.pl id h1]; exact h3⟩
  | .iter id, v, r => by
    unfold E.ren; unfold RepE at r ⊢
    obtain ⟨h1, h2, h3⟩ := r
    exact ⟨t.lt id h1, by rw [t.len id h1]; exact h2, by rw [t.pl id h1]; exact h3⟩
  | .fn f fs cs, v, r => by
    unfold E.ren; unfold RepE at r ⊢
    obtain ⟨us, vs, e, r1, r2⟩ := r
    exact ⟨us, vs, e, RepEs.tell t fs us r1, RepEs.tell t cs vs r2⟩
  | .iface ty x, v, r => by
    unfold E.ren; unfold RepE at r ⊢
    obtain ⟨u, e, r1⟩ := r
    exact ⟨u, e, RepE.tell t x u r1⟩
  | .agg cs, v, r => by
    unfold E.ren; unfold RepE at r ⊢
    obtain ⟨us, e, r1, o⟩ := r
    exact ⟨us, e, RepEs.tell t cs us r1, o⟩
  | .tup cs, v, r => by
    unfold E.ren; unfold RepE at r ⊢
    obtain ⟨us, e, r1⟩ := r
    exact ⟨us, e, RepEs.tell t cs us r1⟩
  | .yld, v, r => by unfold E.ren; unfold RepE at r ⊢; exact r
  | .vp cs off, v, r => by
    unfold E.ren; unfold RepE at r ⊢
    obtain ⟨b, us, e, r1, o, l⟩ := r
    exact ⟨b, us, e, RepEs.tell t cs us r1, o, l⟩
  | .sub id n es lo len, v, r => by
    unfold E.ren; unfold RepE at r ⊢
    obtain ⟨h1, h2, h3, h4, h5⟩ := r
    exact ⟨t.lt id h1, by rw [t.len id h1]; exact h2, by rw [t.len id h1]; exact h3, h4, by rw [t.len id h1, t.pl id h1]; exact h5⟩
theorem RepEs.tell {yl : Nat} {ρ : Nat → Nat} {ι0 ι : Pl} {σ0 σ : List AO} {h : Hp} (t : Tell ρ ι0 σ0 ι σ) : ∀ (es : List E) (vs : List Value), RepEs yl ι0 σ0 h es vs → RepEs yl ι σ h (E.rens ρ es) vs
  | [], _, r => by unfold E.rens; unfold RepEs at r ⊢; exact r
  | e :: es, _, r => by
    unfold E.rens; unfold RepEs at r ⊢
    obtain ⟨u, us, e', r1, r2⟩ := r
    exact ⟨u, us, e', RepE.tell t e u r1, RepEs.tell t es us r2⟩
end
structure Told (ρ : Nat → Nat) (ι0 : Pl) (σ0 : List AO) (ι : Pl) (σ : List AO) : Prop where
  lt : ∀ j, ρ j < σ.length → j < σ0.length
  len : ∀ j, j < σ0.length → rowLen σ (ρ j) = rowLen σ0 j
  pl : ∀ j, j < σ0.length → ι (ρ j) = ι0 j
mutual
theorem RepE.told {yl : Nat} {ρ : Nat → Nat} {ι0 ι : Pl} {σ0 σ : List AO} {h : Hp} (t : Told ρ ι0 σ0 ι σ) : ∀ (e : E) (v : Value), RepE yl ι σ h (e.ren ρ) v → RepE yl ι0 σ0 h e v
  | .t x, v, r => by unfold E.ren at r; unfold RepE at r ⊢; exact r
  | .undef, _, _ => by unfold RepE; trivial
  | .ptr id off, v, r => by
    unfold E.ren at r; unfold RepE at r ⊢
    obtain ⟨h1, h2, h3⟩ := r
    have h1 := t.lt id h1
    exact ⟨h1, by rw [← t.len id h1]; exact h2, by rw [← t.pl id h1]; exact h3⟩
  | .elt id n es i off, v, r => by
    unfold E.ren at r; unfold RepE at r ⊢
    obtain ⟨h1, h2, h3, h4, h5⟩ := r
    have h1 := t.lt id h1
    exact ⟨h1, by rw [← t.len id h1]; exact h2, by rw [← t.len id h1]; exact h3, h4, by rw [← t.len id h1, ← t.pl id h1]; exact h5⟩
  | .loc id n, v, r => by
    unfold E.ren at r; unfold RepE at r ⊢
    obtain ⟨h1, h2, h3, h4, h5⟩ := r
    have h1 := t.lt id h1
    exact ⟨h1, by rw [← t.len id h1]; exact h2, by rw [← t.len id h1]; exact h3, h4, by rw [← t.len id h1, ← t.pl id h1]; exact h5⟩
  | .map id, v, r => by
    unfold E.ren at r; unfold RepE at r ⊢
    obtain ⟨h1, h2, h3⟩ := r
    have h1 := t.lt id h1
    exact ⟨h1, by rw [← t.len id h1]; exact h2, by rw [← t.pl id h1]; exact h3⟩
  | .iter id, v, r => by
    unfold E.ren at r; unfold RepE at r ⊢
    obtain ⟨h1, h2, h3⟩ := r
    have h1 := t.lt id h1
    exact ⟨h1, by rw [← t.len id h1]; exact h2, by rw [← t.pl id h1]; exact h3⟩
  | .fn f fs cs, v, r => by
    unfold E.ren at r; unfold RepE at r ⊢
    obtain ⟨us, vs, e, r1, r2⟩ := r
    exact ⟨us, vs, e, RepEs.told t fs us r1, RepEs.told t cs vs r2⟩
  | .iface ty x, v, r => by
    unfold E.ren at r; unfold RepE at r ⊢
    obtain ⟨u, e, r1⟩ := r
    exact ⟨u, e, RepE.told t x u r1⟩
  | .agg cs, v, r => by
    unfold E.ren at r; unfold RepE at r ⊢
    obtain ⟨us, e, r1, o⟩ := r
    exact ⟨us, e, RepEs.told t cs us r1, o⟩
  | .tup cs, v, r => by
    unfold E.ren at r; unfold RepE at r ⊢
    obtain ⟨us, e, r1⟩ := r
    exact ⟨us, e, RepEs.told t cs us r1⟩
  | .yld, v, r => by unfold E.ren at r; unfold RepE at r ⊢; exact r
  | .vp cs off, v, r => by
    unfold E.ren at r; unfold RepE at r ⊢
    obtain ⟨b, us, e, r1, o, l⟩ := r
    exact ⟨b, us, e, RepEs.told t cs us r1, o, l⟩
  | .sub id n es lo len, v, r => by
    unfold E.ren at r; unfold RepE at r ⊢
    obtain ⟨h1, h2, h3, h4, h5⟩ := r
    have h1 := t.lt id h1
    exact ⟨h1, by rw [← t.len id h1]; exact h2, by rw [← t.len id h1]; exact h3, h4, by rw [← t.len id h1, ← t.pl id h1]; exact h5⟩
theorem RepEs.told {yl : Nat} {ρ : Nat → Nat} {ι0 ι : Pl} {σ0 σ : List AO} {h : Hp} (t : Told ρ ι0 σ0 ι σ) : ∀ (es : List E) (vs : List Value), RepEs yl ι σ h (E.rens ρ es) vs → RepEs yl ι0 σ0 h es vs
  | [], _, r => by unfold E.rens at r; unfold RepEs at r ⊢; exact r
  | e :: es, _, r => by
    unfold E.rens at r; unfold RepEs at r ⊢
    obtain ⟨u, us, e', r1, r2⟩ := r
    exact ⟨u, us, e', RepE.told t e u r1, RepEs.told t es us r2⟩
end
theorem RepOb.tell {yl : Nat} {ρ : Nat → Nat} {ι0 ι : Pl} {σ0 σ : List AO} {h : Hp} (t : Tell ρ ι0 σ0 ι σ) {o : AO} {c : Nat} {ob : Go.Obj} (r : RepOb yl ι0 σ0 h o c ob) : RepOb yl ι σ h (o.ren ρ) c ob := by
  cases o with
  | cells cs => obtain ⟨us, ty, e, r, o⟩ := r; exact ⟨us, ty, e, r.tell t, o⟩
  | row es xs => obtain ⟨vs, rest, ty, e, r, o⟩ := r; exact ⟨vs, rest, ty, e, r.tell t, by simpa [E.rens_map] using o⟩
  | map sh ks xs clk => exact r
  | iter m since seen last => obtain ⟨mb, r, e⟩ := r; exact ⟨mb, r.tell t, e⟩
  | raw o => exact r
theorem RepOb.told {yl : Nat} {ρ : Nat → Nat} {ι0 ι : Pl} {σ0 σ : List AO} {h : Hp} (t : Told ρ ι0 σ0 ι σ) {o : AO} {c : Nat} {ob : Go.Obj} (r : RepOb yl ι σ h (o.ren ρ) c ob) : RepOb yl ι0 σ0 h o c ob := by
  cases o with
  | cells cs => obtain ⟨us, ty, e, r, o⟩ := r; exact ⟨us, ty, e, r.told t, o⟩
  | row es xs => obtain ⟨vs, rest, ty, e, r, o⟩ := r; exact ⟨vs, rest, ty, e, r.told t, by simpa [E.rens_map] using o⟩
  | map sh ks xs clk => exact r
  | iter m since seen last => obtain ⟨mb, r, e⟩ := r; exact ⟨mb, r.told t, e⟩
  | raw o => exact r
theorem lendB_length : ∀ {kp : List Nat} {os σ : List AO}, kp.length ≤ os.length → (lendB σ kp os).length = σ.length + (os.length - kp.length)
  | [], os, σ, _ => by simp [lendB]
  | k :: ks, o :: os, σ, h => by
    simp only [lendB]
    rw [lendB_length (by simpa using h)]
    simp
  | _ :: _, [], _, h => by simp at h
theorem lendB_other : ∀ {kp : List Nat} {os σ : List AO} {i : Nat}, i < σ.length → i ∉ kp → (lendB σ kp os)[i]? = σ[i]?
  | [], os, σ, i, h, _ => by simp only [lendB]; rw [List.getElem?_append_left h]
  | k :: ks, o :: os, σ, i, h, hn => by
    simp only [List.mem_cons, not_or] at hn
    simp only [lendB]
    rw [lendB_other (by simpa using h) hn.2, List.getElem?_set_ne (Ne.symm hn.1)]
  | _ :: _, [], _, _, _, _ => rfl
theorem lendB_kept : ∀ {kp : List Nat} {os σ : List AO} {j i : Nat}, kp.length ≤ os.length → kp.Nodup → (∀ k ∈ kp, k < σ.length) → kp[j]? = some i → (lendB σ kp os)[i]? = os[j]?
  | [], _, _, j, i, _, _, _, h => by simp at h
  | k :: ks, o :: os, σ, 0, i, h1, h2, h3, h => by
    simp at h
    subst h
    simp only [lendB]
    rw [lendB_other (by simpa using h3 k (by simp)) (List.nodup_cons.1 h2).1, List.getElem?_set_self (h3 k (by simp))]
    rfl
  | k :: ks, o :: os, σ, j + 1, i, h1, h2, h3, h => by
    simp only [lendB]
    rw [lendB_kept (by simpa using h1) (List.nodup_cons.1 h2).2 (fun k' hk => by simpa using h3 k' (List.mem_cons_of_mem _ hk)) (by simpa using h)]
    rfl
  | _ :: _, [], _, _, _, h, _, _, _ => by simp at h
theorem lendB_new : ∀ {kp : List Nat} {os σ : List AO} {j : Nat}, kp.length ≤ j → kp.length ≤ os.length → (lendB σ kp os)[σ.length + (j - kp.length)]? = os[j]?
  | [], os, σ, j, _, _ => by simp only [lendB]; rw [List.getElem?_append_right (by omega)]; congr 1; simp
  | k :: ks, o :: os, σ, j, h, h1 => by
    simp only [lendB]
    obtain ⟨j, rfl⟩ : ∃ m, j = m + 1 := ⟨j - 1, by simp at h; omega⟩
    have := lendB_new (kp := ks) (os := os) (σ := σ.set k o) (j := j) (by simpa using h) (by simpa using h1)
    simp only [List.length_set] at this
    have e : j + 1 - (k :: ks).length = j - ks.length := by simp
    rw [e, this]
    rfl
  | _ :: _, [], _, _, _, h => by simp at h
theorem lendB_at {kp : List Nat} {os σ : List AO} {j : Nat} (h1 : kp.length ≤ os.length) (h2 : kp.Nodup) (h3 : ∀ k ∈ kp, k < σ.length) : (lendB σ kp os)[lendR kp σ.length j]? = os[j]? := by
  unfold lendR
  split
  · rename_i i hi; exact lendB_kept h1 h2 h3 hi
  · rename_i hi; exact lendB_new (List.getElem?_eq_none_iff.1 hi) h1
theorem pos?_none : ∀ {kp : List Nat} {id : Nat}, pos? kp id = none → id ∉ kp
  | [], _, _ => by simp
  | k :: ks, id, h => by
    simp only [pos?] at h
    split at h
    · cases h
    · rename_i hne
      simp only [List.mem_cons, not_or]
      exact ⟨fun e => hne e.symm, pos?_none (Option.map_eq_none_iff.1 h)⟩
theorem pos?_of : ∀ {kp : List Nat} {j id : Nat}, kp.Nodup → kp[j]? = some id → pos? kp id = some j
  | [], _, _, _, h => by simp at h
  | k :: ks, 0, id, _, h => by simp at h; simp [pos?, h]
  | k :: ks, j + 1, id, hn, h => by
    have hm : id ∈ ks := List.mem_of_getElem? (by simpa using h)
    have hne : k ≠ id := fun e => (List.nodup_cons.1 hn).1 (e ▸ hm)
    simp only [pos?, if_neg hne, pos?_of (List.nodup_cons.1 hn).2 (by simpa using h : ks[j]? = some id), Option.map_some]
def lendP (kp : List Nat) (n : Nat) (ι ι0 : Pl) : Pl := fun i => match pos? kp i with
  | some j => ι0 j
  | none => if i < n then ι i else ι0 (i - n + kp.length)
theorem lendP_at {kp : List Nat} {n : Nat} {ι ι0 : Pl} {j : Nat} (h2 : kp.Nodup) (h3 : ∀ k ∈ kp, k < n) : lendP kp n ι ι0 (lendR kp n j) = ι0 j := by
  unfold lendR
  split
  · rename_i i hi
    unfold lendP
    rw [pos?_of h2 hi]
  · rename_i hi
    have hl := List.getElem?_eq_none_iff.1 hi
    unfold lendP
    split
    · rename_i j' hj
      have := h3 _ (List.mem_of_getElem? (pos?_spec hj))
      omega
    · rw [if_neg (by omega)]
      congr 1
      omega
theorem ACall.lend {P : Program} {f : Nat} {args0 : List E} {σ0 σ : List AO} {R : Out → List AO → Prop} (kp : List Nat) (h : ACall P f args0 σ0 R) (hnd : kp.Nodup) (hlt : ∀ k ∈ kp, k < σ.length) (hlen : σ0.length = kp.length)
    (hobj : ∀ (j : Nat) o, σ0[j]? = some o → σ[lendR kp σ.length j]? = some (o.ren (lendR kp σ.length))) {args : List E} (hargs : args = E.rens (lendR kp σ.length) args0) :
    ACall P f args σ fun o σ1 => ∃ o0 σ0', R o0 σ0' ∧ kp.length ≤ σ0'.length ∧ o = o0.ren (lendR kp σ.length) ∧ σ1 = lendB σ kp (σ0'.map (AO.ren (lendR kp σ.length))) := by
  subst hargs
  refine ⟨h.1, fun C k w ι vis D vs hC M r => ?_⟩
  generalize hρ : lendR kp σ.length = ρ at *
  have hin : ∀ j, j < kp.length → ∃ i, kp[j]? = some i ∧ ρ j = i ∧ i < σ.length ∧ i ∈ kp := fun j hj => by
    have hi : kp[j]? = some kp[j] := List.getElem?_eq_getElem hj
    exact ⟨kp[j], hi, by rw [← hρ]; unfold lendR; rw [hi], hlt _ (List.mem_of_getElem? hi), List.mem_of_getElem? hi⟩
  have hout : ∀ j, kp.length ≤ j → ρ j = σ.length + (j - kp.length) := fun j hj => by rw [← hρ]; unfold lendR; rw [List.getElem?_eq_none hj]
  let ι0 : Pl := fun j => if j < kp.length then ι (ρ j) else none
  have ht : Told ρ ι0 σ0 ι σ := ⟨fun j hj => by
      rw [hlen]
      by_cases h : j < kp.length
      · exact h
      · rw [hout j (by omega)] at hj; omega, fun j hj => by
      have ho : σ0[j]? = some σ0[j] := List.getElem?_eq_getElem hj
      unfold rowLen
      rw [hobj j _ ho, ho]
      exact AO.len?_ren ρ _, fun j hj => by
      have : j < kp.length := by omega
      simp [ι0, this]⟩
  let K : Nat → Prop := fun b => ∃ i c, ι i = some (b, c) ∧ i ∉ kp
  let D0 : Nat → Prop := fun b => D b ∨ K b
  let C' := C.hide D D0 w
  have r1 : RepEs C'.yl ι0 σ0 (hp vis w) args0 vs := r.told ht
  have hpl : ∀ j b c, ι0 j = some (b, c) → j < kp.length ∧ ι (ρ j) = some (b, c) := fun j b c hj => by
    by_cases h : j < kp.length
    · simp only [ι0, if_pos h] at hj; exact ⟨h, hj⟩
    · simp [ι0, h] at hj
  have M2 : Mem C' k σ0 w ι0 vis D0 := by
    refine ⟨M.glob, fun i j b c c' hi hj => ?_, fun j b c hj => ?_, M.visLt, fun b hb => ?_, fun b hb h => ?_, fun j o hj => ?_, D, M.hist, fun _ h => h, fun b h => ⟨.inl h, .inl h⟩, fun b h => ⟨h, rfl⟩⟩
    · obtain ⟨h1, h2⟩ := hpl i b c hi
      obtain ⟨h3, h4⟩ := hpl j b c' hj
      have e := M.inj _ _ b c c' h2 h4
      obtain ⟨x, hx, ex, _, _⟩ := hin i h1
      obtain ⟨y, hy, ey, _, _⟩ := hin j h3
      exact (List.getElem?_inj h1 hnd).1 (hx.trans (by rw [hy, ← ex, ← ey, e]))
    · obtain ⟨h1, h2⟩ := hpl j b c hj
      obtain ⟨g1, g2, g3, g4⟩ := M.own _ b c h2
      refine ⟨by omega, g2, g3, ?_⟩
      rintro (h | ⟨i, c', h5, h6⟩)
      · exact g4 h
      · have e := M.inj _ _ b c c' h2 h5
        obtain ⟨x, hx, ex, _, hm⟩ := hin j h1
        exact h6 (by rw [← e, ex]; exact hm)
    · rcases hb with hb | ⟨i, c, hi, _⟩
      · exact M.DLt b hb
      · exact (M.own i b c hi).2.1
    · rcases h with h | ⟨i, c, hi, _⟩
      · exact M.visD b hb h
      · exact (M.own i b c hi).2.2.1 hb
    · have hjl : j < kp.length := by have := (List.getElem?_eq_some_iff.1 hj).1; omega
      have ho := M.objs _ _ (hobj j o hj)
      have e : ι0 j = ι (ρ j) := by simp [ι0, hjl]
      rw [e]
      cases hp : ι (ρ j) with
      | none =>
        rw [hp] at ho
        obtain ⟨es, xs0, h1, h2⟩ := ho
        cases o <;> simp only [AO.ren] at h1 <;> first | (cases h1; done) | skip
        rename_i es' xs
        cases h1
        refine ⟨_, xs, rfl, fun h => ?_⟩
        have := h2 h
        cases xs with
        | nil => rfl
        | cons x xs => simp [E.rens] at this
      | some bc =>
        obtain ⟨b, c⟩ := bc
        rw [hp] at ho
        obtain ⟨ob, h1, h2⟩ := ho
        exact ⟨ob, h1, h2.told ht⟩
  refine (h.2 C' k w ι0 vis D0 vs hC M2 r1).mono fun e w' ⟨o, σ1, ι1, vis1, D1, hr, M3, u, ud, hou⟩ => ?_
  obtain ⟨D2, h1, h2, h3, h4⟩ := M3.hist
  have hk1 : kp.length ≤ σ1.length := by rw [← hlen]; exact u.goes.len
  have hk2 : kp.length ≤ (σ1.map (AO.ren ρ)).length := by simpa using hk1
  let ι2 : Pl := lendP kp σ.length ι ι1
  let σ2 : List AO := lendB σ kp (σ1.map (AO.ren ρ))
  have hl2 : σ2.length = σ.length + (σ1.length - kp.length) := by simp only [σ2]; rw [lendB_length hk2]; simp
  have hat : ∀ j : Nat, σ2[ρ j]? = (σ1[j]?).map (AO.ren ρ) := fun j => by
    have := lendB_at (σ := σ) (j := j) hk2 hnd hlt
    rw [hρ] at this
    simp only [σ2]
    rw [this, List.getElem?_map]
  have hoth : ∀ i : Nat, i < σ.length → i ∉ kp → σ2[i]? = σ[i]? := fun i hi hn => lendB_other hi hn
  have hι : ∀ j, ι2 (ρ j) = ι1 j := fun j => by
    have := lendP_at (ι := ι) (ι0 := ι1) (j := j) hnd hlt
    rw [hρ] at this
    exact this
  have hιo : ∀ i, i < σ.length → i ∉ kp → ι2 i = ι i := fun i hi hn => by
    have hp : pos? kp i = none := by
      cases h : pos? kp i with
      | none => rfl
      | some j => exact absurd (List.mem_of_getElem? (pos?_spec h)) hn
    simp only [ι2, lendP, hp, if_pos hi]
  have hιc : ∀ i b c, ι2 i = some (b, c) → (∃ j, j < σ1.length ∧ i = ρ j ∧ ι1 j = some (b, c)) ∨ (i < σ.length ∧ i ∉ kp ∧ ι i = some (b, c)) := fun i b c hi => by
    simp only [ι2, lendP] at hi
    split at hi
    · rename_i j hj
      have hk := pos?_spec hj
      have hjl := (List.getElem?_eq_some_iff.1 hk).1
      obtain ⟨x, hx, ex, _, _⟩ := hin j hjl
      rw [hx] at hk; cases hk
      exact .inl ⟨j, by omega, ex.symm, hi⟩
    · rename_i hj
      split at hi
      · rename_i hlt'; exact .inr ⟨hlt', pos?_none hj, hi⟩
      · rename_i hge
        have hj1 := (M3.own _ b c hi).1
        exact .inl ⟨_, hj1, by rw [hout _ (by omega)]; omega, hi⟩
  have tl : Tell ρ ι1 σ1 ι2 σ2 := ⟨fun j hj => by
      have := hat j
      rw [List.getElem?_eq_getElem hj] at this
      exact (List.getElem?_eq_some_iff.1 this).1, fun j hj => by
      unfold rowLen
      rw [hat j, List.getElem?_eq_getElem hj]
      exact AO.len?_ren ρ _, fun j hj => hι j⟩
  have g : Goes ι σ ι2 σ2 := by
    have hkp : ∀ id, id ∈ kp → ∃ j, j < σ0.length ∧ ρ j = id ∧ j < kp.length := fun id hid => by
      obtain ⟨j, hj⟩ := List.getElem?_of_mem hid
      have hjl := (List.getElem?_eq_some_iff.1 hj).1
      obtain ⟨x, hx, ex, _, _⟩ := hin j hjl
      rw [hx] at hj; cases hj
      exact ⟨j, by omega, ex, hjl⟩
    refine ⟨by rw [hl2]; omega, fun id hid hl => ?_, fun id n hid hl => ?_⟩
    · by_cases hm : id ∈ kp
      · obtain ⟨j, hj, rfl, hjk⟩ := hkp id hm
        rw [ht.len j hj] at hl
        obtain ⟨q1, q2⟩ := u.goes.fix j hj hl
        have hj1 : j < σ1.length := by omega
        exact ⟨by rw [tl.len j hj1]; exact q1, by rw [hι j, q2]; exact (ht.pl j hj).symm⟩
      · exact ⟨by unfold rowLen at *; rw [hoth id hid hm]; exact hl, hιo id hid hm⟩
    · by_cases hm : id ∈ kp
      · obtain ⟨j, hj, rfl, hjk⟩ := hkp id hm
        rw [ht.len j hj] at hl
        obtain ⟨m, q1, q2, q3⟩ := u.goes.row j n hj hl
        have hj1 : j < σ1.length := by omega
        exact ⟨m, by rw [tl.len j hj1]; exact q1, q2, fun e => by rw [hι j, q3 e]; exact (ht.pl j hj).symm⟩
      · exact ⟨n, by unfold rowLen at *; rw [hoth id hid hm]; exact hl, Nat.le_refl _, fun _ => hιo id hid hm⟩
  refine ⟨o.ren ρ, σ2, ι2, vis1, D2, ⟨o, σ1, hr, hk1, rfl, rfl⟩, ⟨M3.glob, fun i j b c c' hi hj => ?_, fun i b c hi => ?_, M3.visLt, fun b hb => M3.DLt b (h3 b hb).1, fun b hb h => M3.visD b hb (h3 b h).1, fun i ob hi => ?_, h1⟩,
    ⟨g, u.le, u.size, fun i b c hi => ?_, fun b hb => ?_⟩, ⟨h2, fun b h => (h3 b h).2⟩, ?_⟩
  · have cross : ∀ {x y : Nat} {cx cy : Nat}, ι1 x = some (b, cx) → y ∉ kp → ι y = some (b, cy) → False := fun {x y cx cy} hx hy hy' => (M3.own _ _ _ hx).2.2.2 (h4 b (.inr ⟨y, cy, hy', hy⟩)).1
    rcases hιc i b c hi with ⟨x, _, rfl, hx⟩ | ⟨hi1, hi2, hi3⟩ <;> rcases hιc j b c' hj with ⟨y, _, rfl, hy⟩ | ⟨hj1, hj2, hj3⟩
    · rw [M3.inj x y b c c' hx hy]
    · exact (cross hx hj2 hj3).elim
    · exact (cross hy hi2 hi3).elim
    · exact M.inj i j b c c' hi3 hj3
  · rcases hιc i b c hi with ⟨x, hx1, rfl, hx⟩ | ⟨hi1, hi2, hi3⟩
    · obtain ⟨q1, q2, q3, q4⟩ := M3.own x b c hx
      exact ⟨tl.lt x hx1, q2, q3, fun h => q4 (h3 b h).1⟩
    · obtain ⟨q1, q2, q3, q4⟩ := M.own i b c hi3
      refine ⟨by omega, Nat.lt_of_lt_of_le q2 u.size, fun h => ?_, fun h => ?_⟩
      · rcases u.vis b h with h | h | ⟨j, c', h⟩
        · exact q3 h
        · omega
        · obtain ⟨hj, hj'⟩ := hpl j b c' h
          obtain ⟨x, _, ex, _, hm⟩ := hin j hj
          exact hi2 (by rw [M.inj i _ b c c' hi3 hj', ex]; exact hm)
      · rcases (h3 b h).2 with h | h
        · exact q4 h
        · omega
  · by_cases hm : i < σ.length ∧ i ∉ kp
    · rw [hoth i hm.1 hm.2] at hi
      have ho := M.objs i ob hi
      rw [hιo i hm.1 hm.2]
      cases hp : ι i with
      | none => rw [hp] at ho; exact ho
      | some bc =>
        obtain ⟨b, c⟩ := bc
        rw [hp] at ho
        obtain ⟨ob', q1, q2⟩ := ho
        exact ⟨ob', by rw [(h4 b (.inr ⟨i, c, hp, hm.2⟩)).2]; exact q1, q2.mono g u.le⟩
    · obtain ⟨j, rfl⟩ : ∃ j, i = ρ j := by
        by_cases h : i < σ.length
        · have hmem : i ∈ kp := Classical.byContradiction fun hn => hm ⟨h, hn⟩
          obtain ⟨j, hj⟩ := List.getElem?_of_mem hmem
          obtain ⟨x, hx, ex, _, _⟩ := hin j (List.getElem?_eq_some_iff.1 hj).1
          rw [hx] at hj; cases hj
          exact ⟨j, ex.symm⟩
        · exact ⟨i - σ.length + kp.length, by rw [hout _ (by omega)]; omega⟩
      rw [hat j] at hi
      obtain ⟨o', ho', rfl⟩ := Option.map_eq_some_iff.1 hi
      have hob := M3.objs j o' ho'
      rw [hι j]
      cases hp : ι1 j with
      | none =>
        rw [hp] at hob
        obtain ⟨es, xs, rfl, hes⟩ := hob
        exact ⟨es, _, rfl, fun h => by rw [hes h]; rfl⟩
      | some bc =>
        obtain ⟨b, c⟩ := bc
        rw [hp] at hob
        obtain ⟨ob', q1, q2⟩ := hob
        exact ⟨ob', q1, q2.tell tl⟩
  · rcases hιc i b c hi with ⟨x, hx1, rfl, hx⟩ | ⟨hi1, hi2, hi3⟩
    · rcases u.own x b c hx with ⟨j, c', hj⟩ | h
      · obtain ⟨_, hj'⟩ := hpl j b c' hj
        exact .inl ⟨_, c', hj'⟩
      · exact .inr h
    · exact .inl ⟨i, c, hi3⟩
  · rcases u.vis b hb with h | h | ⟨j, c, h⟩
    · exact .inl h
    · exact .inr (.inl h)
    · obtain ⟨_, hj'⟩ := hpl j b c h
      exact .inr (.inr ⟨_, c, hj'⟩)
  · cases o with
    | ret x =>
      cases e with
      | returned v => exact RepE.tell tl x v hou
      | panicked c => exact hou.elim
      | outgrown => exact hou.elim
    | pan x => cases e <;> exact hou
end Go.Ab
namespace Go.Ab
theorem wrap_id {n : Int} (h1 : -9223372036854775808 ≤ n) (h2 : n < 9223372036854775808) : IntKind.i64.wrap n = n := by
  simp only [IntKind.wrap, IntKind.signed, IntKind.bits]
  have h3 : Int.bmod n (2 ^ 64) = n := by
    rw [Int.bmod_eq_of_le] <;> omega
  first | exact h3 | (simp [Int.bmod] at h3 ⊢; omega)
attribute [go_sem]   Int.cast_ofNat_Int
theorem AndL.mk {A B : Lz Prop} (h1 : A.get) (h2 : B.get) : @AndL A B := ⟨h1, h2⟩
theorem gc_t {kp : List Nat} {σ : List AO} {n : Nat} {x : T} : E.gc kp σ (n + 1) (.t x) = .t x := rfl
theorem gc_row {kp : List Nat} {σ : List AO} {n : Nat} (xs : List T) : (xs.map E.t).map (E.gc kp σ (n + 1)) = xs.map E.t := by rw [List.map_map]; rfl
theorem allT_t : ∀ (xs : List T), allT (xs.map E.t) = some xs
  | [] => rfl
  | x :: xs => by simp only [List.map_cons, allT, allT_t xs, Option.map_some]
theorem gc_loc {kp : List Nat} {σ : List AO} {n id m es : Nat} {xs : List T} (h : pos? kp id = none) (ho : σ[id]? = some (.row es (xs.map E.t))) (hm : m = xs.length) : E.gc kp σ (n + 2) (.loc id m) = .t (.slice es xs) := by
  rw [E.gc]
  simp only [h, ho, List.length_map, hm, if_true, gc_row, allT_t]
theorem St.gc_mk {kp lv : List Nat} {s : St} {env' : List (Nat × E)} {σ' : List AO} {df' : List Df} {k' : Nat} (h1 : (lv.map fun i => (i, E.gc kp s.σ 12 (lk s.env i))) = env') (h2 : σgc kp s.σ 12 = σ') (h3 : s.df.map (Df.gc kp s.σ) = df') (h4 : s.k = k') :
    s.gc kp lv = { env := env', σ := σ', df := df', k := k' } := by subst h1; subst h2; subst h3; subst h4; rfl
def res (o' : Out) : Out → List AO → Prop := fun o σ => o = o' ∧ σ = []
abbrev ret (x : T) : Out → List AO → Prop := res (.ret (.t x))
theorem res_mk {x y : Out} (h : x = y) : res y x [] := ⟨h, rfl⟩
def E.isT : E → Bool
  | .t _ => true
  | _ => false
theorem isT_map : ∀ {args : List E}, args.all E.isT = true → ∃ args' : List T, args = args'.map .t
  | [], _ => ⟨[], rfl⟩
  | a :: as, h => by
    simp only [List.all_cons, Bool.and_eq_true] at h
    obtain ⟨as', e⟩ := isT_map h.2
    cases a <;> simp [E.isT] at h
    rename_i x
    exact ⟨x :: as', by rw [e]; rfl⟩
section
variable {P : Program} {f : Nat} {args args0 : List E} {σ : List AO} {R : Lz (Out → List AO → Prop)}
theorem ACallL.quiet1 {o' : Out} (h : ACall P f args0 [] (res o')) (hT : args0.all E.isT = true) (hv : args.map (E.gc [] σ 12) = args0) (hf : o'.flat = true) (hk : R.get o' σ) : @ACallL P f args σ R := by
  obtain ⟨a, rfl⟩ := isT_map hT
  refine (h.quiet hv ?_).mono ?_
  · rintro o σ' ⟨rfl, _⟩; exact hf
  · rintro o σ' ⟨rfl, σ1, rfl, _⟩; exact hk
theorem ACallL.fresh1 {o' : Out} (h : ACall P f args [] (res o')) (hT : args.all E.isT = true) (hk : R.get o' σ) : @ACallL P f args σ R := by
  obtain ⟨a, rfl⟩ := isT_map hT
  refine (h.fresh ?_).mono ?_
  · rintro o σ' ⟨_, rfl⟩; rfl
  · rintro o σ' ⟨rfl, rfl, _⟩; exact hk
end
section
variable {W : W} {Q : Lz (Ex → St → Prop)} {s : St}
theorem awpL_loopK {c : AC} (N : Nat) (S : Nat → St → Prop) (h0 : ∃ s', Sub W.nb s s' ∧ S 0 s')
    (h : ∀ k s, k ≤ N → S k s → @awpL W ⟨c⟩ ⟨fun e s => match e with | .normal => k < N ∧ ∃ s', Sub W.nb s s' ∧ S (k + 1) s' | e => Q.get e s⟩ s) : @awpL W ⟨.loop c⟩ Q s := by
  obtain ⟨s', hs, h0⟩ := h0
  refine awpL_loop (fun n s => ∃ k, k + n = N ∧ S k s) ⟨N, s', hs, 0, by omega, h0⟩ ?_
  rintro n s ⟨k, hk, hS⟩
  refine awp_mono c ?_ (h k s (by omega) hS)
  intro e s1 h1
  cases e with
  | normal =>
    obtain ⟨hlt, s2, h2, h3⟩ := h1
    exact ⟨N - (k + 1), s2, by omega, h2, k + 1, by omega, h3⟩
  | _ => exact h1
theorem awpL_for {c i L b : Nat} {body rg : AC} (N : Nat) (S : Nat → St → Prop) (hS : ∀ k s, S k s → lk s.env i = .t (vi k) ∧ lk s.env L = .t (vi N)) (h0 : ∃ s', Sub W.nb s s' ∧ S 0 s')
    (h : ∀ k s, k < N → S k s → @awpL W ⟨.seq body rg⟩ ⟨fun e s => match e with | .normal => ∃ s', Sub W.nb s s' ∧ S (k + 1) s' | e => Q.get e s⟩ { s with env := (c, .t (vb true)) :: s.env })
    (hx : ∀ s, S N s → Q.get (.exit b) { s with env := (c, .t (vb false)) :: s.env }) :
    @awpL W ⟨.loop (.seq (.reg [⟨some c, none, .bin .lss (.tmp i) (.tmp L)⟩]) (.seq (.cond (.tmp c) .skip (.exit b)) (.seq body rg)))⟩ Q s := by
  refine awpL_loopK N S h0 fun k s hk hs => ?_
  obtain ⟨e1, e2⟩ := hS k s hs
  simp only [go_sem, e1, e2]
  refine BrL.mk (fun hb => ?_) (fun hb => ?_)
  · have hlt : k < N := by simpa using hb
    simp only [hb]
    refine awp_mono body ?_ (h k s hlt hs)
    intro e s1 h1
    cases e with
    | normal => exact awp_mono rg (fun e s h2 => by
        cases e with
        | normal => exact ⟨hlt, h2⟩
        | _ => exact h2) h1
    | _ => exact h1
  · have : k = N := by have : ¬ (k : Int) < N := by simpa using hb
                       omega
    subst this
    simp only [hb, go_sem]
    exact hx s hs
end
end Go.Ab
namespace Go.Ab
abbrev ME := Nat × List Int × T
def mks (m : List ME) : List (Nat × List Int) := m.map fun e => (e.1, e.2.1)
def mvs (m : List ME) : List T := m.map fun e => e.2.2
def allI (ks : Kinds) : Bool := ks.all (·.isSome)
theorem kEq_int : ∀ {ks : Kinds} {a b : List Int}, allI ks = true → a.length = ks.length → b.length = ks.length → kEq ks a b = decide (a = b)
  | [], [], [], _, _, _ => by simp [kEq]
  | k :: ks, x :: a, y :: b, h, h1, h2 => by
    simp only [allI, List.all_cons, Bool.and_eq_true] at h
    obtain ⟨k, rfl⟩ := Option.isSome_iff_exists.1 h.1
    simp only [kEq, cellEq]
    rw [kEq_int (by simpa [allI] using h.2) (by simpa using h1) (by simpa using h2)]
    by_cases e : x = y <;> simp [e]
  | [], _ :: _, _, _, h, _ => by simp at h
  | [], [], _ :: _, _, _, h => by simp at h
  | _ :: _, [], _, _, h, _ => by simp at h
  | _ :: _, _ :: _, [], _, _, h => by simp at h
structure MWF (sh : Sh) (m : List ME) (clk : Nat) : Prop where
  ints : allI (shKinds sh) = true
  lens : ∀ e ∈ m, e.2.1.length = (shKinds sh).length
  lt : ∀ e ∈ m, e.1 < clk
  nb : (m.map (·.1)).Nodup
  nk : (m.map (·.2.1)).Nodup
theorem MWF.nil {sh : Sh} {clk : Nat} (h : allI (shKinds sh) = true) : MWF sh [] clk := ⟨h, by simp, by simp, by simp, by simp⟩
theorem MWF.sub {sh : Sh} {m m' : List ME} {clk : Nat} (h : MWF sh m clk) (hs : m'.Sublist m) : MWF sh m' clk :=
  ⟨h.ints, fun e he => h.lens e (hs.subset he), fun e he => h.lt e (hs.subset he), h.nb.sublist (hs.map _), h.nk.sublist (hs.map _)⟩
def mupd (m : List ME) (clk : Nat) (key : List Int) (v : T) : List ME := match m.findIdx? fun e => decide (key = e.2.1) with
  | some i => m.modify i fun e => (e.1, e.2.1, v)
  | none => m ++ [(clk, key, v)]
def mget (m : List ME) (key : List Int) : Option T := (m.find? fun e => decide (key = e.2.1)).map (·.2.2)
end Go.Ab
namespace Go.Ab
theorem i64_nat {a : Nat} (h : a < 9223372036854775808) : IntKind.i64.wrap (a : Int) = a := wrap_id (by omega) (by omega)
theorem bits_and {a b : Nat} (ha : a < 9223372036854775808) (hb : b < 9223372036854775808) : bits .and .i64 a b = ((a &&& b : Nat) : Int) := by
  have h1 : (BitVec.ofInt IntKind.i64.bits (a : Int) &&& BitVec.ofInt IntKind.i64.bits (b : Int)).toNat = a &&& b := by
    rw [BitVec.toNat_and, BitVec.ofInt_natCast, BitVec.ofInt_natCast, BitVec.toNat_ofNat, BitVec.toNat_ofNat]
    simp only [IntKind.bits]
    rw [Nat.mod_eq_of_lt (by omega), Nat.mod_eq_of_lt (by omega)]
  unfold bits
  simp only [h1]
  exact i64_nat (Nat.lt_of_le_of_lt Nat.and_le_left ha)
theorem bits_or {a b : Nat} (ha : a < 9223372036854775808) (hb : b < 9223372036854775808) : bits .or .i64 a b = ((a ||| b : Nat) : Int) := by
  have h1 : (BitVec.ofInt IntKind.i64.bits (a : Int) ||| BitVec.ofInt IntKind.i64.bits (b : Int)).toNat = a ||| b := by
    rw [BitVec.toNat_or, BitVec.ofInt_natCast, BitVec.ofInt_natCast, BitVec.toNat_ofNat, BitVec.toNat_ofNat]
    simp only [IntKind.bits]
    rw [Nat.mod_eq_of_lt (by omega), Nat.mod_eq_of_lt (by omega)]
  unfold bits
  simp only [h1]
  exact i64_nat (Nat.or_lt_two_pow (n := 63) (by omega) (by omega))
def ndiff (a b : Nat) : Nat := a ^^^ (a &&& b)
theorem ndiff_bit (a b i : Nat) : (ndiff a b).testBit i = (a.testBit i && !b.testBit i) := by
  unfold ndiff
  rw [Nat.testBit_xor, Nat.testBit_and]
  cases a.testBit i <;> cases b.testBit i <;> rfl
theorem ndiff_le (a b : Nat) : ndiff a b ≤ a := by
  have : ndiff a b = a &&& ndiff a b := by
    apply Nat.eq_of_testBit_eq
    intro i
    rw [Nat.testBit_and, ndiff_bit]
    cases a.testBit i <;> simp
  rw [this]
  exact Nat.and_le_left
theorem bits_andNot {a b : Nat} (ha : a < 9223372036854775808) (hb : b < 9223372036854775808) : bits .andNot .i64 a b = ((ndiff a b : Nat) : Int) := by
  have h1 : (BitVec.ofInt IntKind.i64.bits (a : Int) &&& ~~~ BitVec.ofInt IntKind.i64.bits (b : Int)).toNat = ndiff a b := by
    apply Nat.eq_of_testBit_eq
    intro i
    rw [ndiff_bit, BitVec.testBit_toNat, BitVec.getLsbD_and, BitVec.getLsbD_not, BitVec.ofInt_natCast, BitVec.ofInt_natCast, BitVec.getLsbD_ofNat, BitVec.getLsbD_ofNat]
    simp only [IntKind.bits]
    by_cases hi : i < 64
    · simp [hi]
    · have : a.testBit i = false := Nat.testBit_lt_two_pow (Nat.lt_of_lt_of_le (show a < 2 ^ 64 by omega) (Nat.pow_le_pow_right (by omega) (by omega)))
      simp [hi, this]
  unfold bits
  simp only [h1]
  exact i64_nat (Nat.lt_of_le_of_lt (ndiff_le a b) ha)
theorem shr_nat {a i : Nat} (ha : a < 9223372036854775808) : ((a : Int)).fdiv (2 ^ (min i 64)) = ((a >>> i : Nat) : Int) := by
  have h2 : ∀ n : Nat, (a : Int).fdiv (2 ^ n) = ((a >>> n : Nat) : Int) := fun n => by
    rw [Nat.shiftRight_eq_div_pow, Int.fdiv_eq_ediv_of_nonneg _ (Int.pow_nonneg (by omega))]
    norm_cast
  rw [h2]
  rcases Nat.le_total i 64 with h | h
  · rw [Nat.min_eq_left h]
  · rw [Nat.min_eq_right h, Nat.shiftRight_eq_div_pow, Nat.shiftRight_eq_div_pow, Nat.div_eq_of_lt (by omega), Nat.div_eq_of_lt (Nat.lt_of_lt_of_le (show a < 2 ^ 64 by omega) (Nat.pow_le_pow_right (by omega) h))]
theorem bit_eq {a i : Nat} (ha : a < 9223372036854775808) : (bits .and .i64 ((a : Int).fdiv (2 ^ (min i 64))) 1 == 1) = a.testBit i := by
  rw [shr_nat ha, show (1 : Int) = ((1 : Nat) : Int) from rfl, bits_and (Nat.lt_of_le_of_lt (by rw [Nat.shiftRight_eq_div_pow]; exact Nat.div_le_self _ _) ha) (by omega), Nat.testBit_eq_decide_div_mod_eq, Nat.shiftRight_eq_div_pow]
  have : a / 2 ^ i &&& 1 = a / 2 ^ i % 2 := Nat.and_one_is_mod _
  rw [this]
  by_cases h : a / 2 ^ i % 2 = 1
  · simp [h]
  · have : a / 2 ^ i % 2 = 0 := by omega
    simp [this]
theorem shl_one {i : Nat} (h : i < 62) : IntKind.i64.wrap (1 * 2 ^ (min i 64)) = ((2 ^ i : Nat) : Int) := by
  simp only [Int.one_mul]
  rw [Nat.min_eq_left (by omega)]
  have h1 : (2 : Int) ^ i = ((2 ^ i : Nat) : Int) := by norm_cast
  rw [h1]
  have h2 : 2 ^ i < 2 ^ 62 := Nat.pow_lt_pow_right (by omega) h
  exact i64_nat (by omega)
def popF : Nat → Nat → Nat
  | 0, _ => 0
  | k + 1, n => n % 2 + popF k (n / 2)
def size (n : Nat) : Nat := popF 64 n
end Go.Ab
namespace Go.Ab
def iv : T → Int
  | .lit (.int _ n) => n
  | _ => 0
def wsum (f : List Int → Int) (m : List ME) : Int := (m.map fun e => iv e.2.2 * f e.2.1).sum
def geti (m : List ME) (key : List Int) : Int := ((mget m key).map iv).getD 0
theorem wsum_cons {f : List Int → Int} {e : ME} {m : List ME} : wsum f (e :: m) = iv e.2.2 * f e.2.1 + wsum f m := by simp [wsum]
theorem wsum_append {f : List Int → Int} {a b : List ME} : wsum f (a ++ b) = wsum f a + wsum f b := by simp [wsum, List.sum_append]
theorem mupd_cons {e : ME} {m : List ME} {clk : Nat} {key : List Int} {v : T} : mupd (e :: m) clk key v = if key = e.2.1 then (e.1, e.2.1, v) :: m else e :: mupd m clk key v := by
  unfold mupd
  simp only [List.findIdx?_cons]
  by_cases h : key = e.2.1
  · simp [h]
  · simp only [h, decide_false, if_false, Bool.false_eq_true]
    cases m.findIdx? fun e => decide (key = e.2.1) <;> simp
theorem mem_mupd {clk : Nat} {key : List Int} {v : T} : ∀ {m : List ME} {e : ME}, e ∈ mupd m clk key v → e ∈ m ∨ (e.2.1 = key ∧ e.2.2 = v)
  | [], e, h => by simp [mupd] at h; subst h; exact .inr ⟨rfl, rfl⟩
  | x :: m, e, h => by
    rw [mupd_cons] at h
    split at h
    · rename_i hk
      rcases List.mem_cons.1 h with rfl | h
      · exact .inr ⟨hk.symm, rfl⟩
      · exact .inl (List.mem_cons_of_mem _ h)
    · rcases List.mem_cons.1 h with rfl | h
      · exact .inl (by simp)
      · rcases mem_mupd h with h | h
        · exact .inl (List.mem_cons_of_mem _ h)
        · exact .inr h
def MPos (m : List ME) : Prop := ∀ e ∈ m, e.2.2 = .lit (.int .i64 (iv e.2.2)) ∧ 0 < iv e.2.2
theorem MPos.get {m : List ME} (h : MPos m) (key : List Int) : mget m key = none ∨ (mget m key = some (.lit (.int .i64 (geti m key))) ∧ 0 < geti m key) := by
  unfold geti mget
  cases hf : m.find? fun e => decide (key = e.2.1) with
  | none => exact .inl rfl
  | some e =>
    obtain ⟨h1, h2⟩ := h e (List.mem_of_find?_eq_some hf)
    exact .inr ⟨by simpa using h1, by simpa using h2⟩
theorem MPos.upd {m : List ME} (h : MPos m) {clk : Nat} {key : List Int} {d : Int} (hd : 0 < d) : MPos (mupd m clk key (.lit (.int .i64 (geti m key + d)))) := fun e he => by
  rcases mem_mupd he with h' | ⟨_, h2⟩
  · exact h e h'
  · rw [h2]
    refine ⟨rfl, ?_⟩
    rcases h.get key with h3 | ⟨_, h3⟩
    · have : geti m key = 0 := by unfold geti; rw [h3]; rfl
      simp only [iv, this]; omega
    · simp only [iv]; omega
theorem MPos.le {m : List ME} (h : MPos m) {f : List Int → Int} (hf : ∀ s, 0 ≤ f s) : 0 ≤ wsum f m := by
  induction m with
  | nil => simp [wsum]
  | cons e m ih =>
    rw [wsum_cons]
    have h1 := (h e (by simp)).2
    have h2 := ih fun x hx => h x (List.mem_cons_of_mem _ hx)
    have := Int.mul_nonneg (Int.le_of_lt h1) (hf e.2.1)
    omega
theorem MPos.one {m : List ME} (h : MPos m) {e : ME} (he : e ∈ m) : iv e.2.2 ≤ wsum (fun _ => 1) m := by
  obtain ⟨a, b, rfl⟩ := List.append_of_mem he
  rw [wsum_append, wsum_cons]
  have h1 := MPos.le (m := a) (fun x hx => h x (by simp [hx])) (f := fun _ => 1) (fun _ => by omega)
  have h2 := MPos.le (m := b) (fun x hx => h x (by simp [hx])) (f := fun _ => 1) (fun _ => by omega)
  omega
theorem awpL_gcpE {W : W} {Q : Lz (Ex → St → Prop)} {s : St} (kp lv : List Nat) (s' : St) (h : s.gc kp lv = s') (h1 : gcOK kp s.σ = true) (h2 : keepsBase W.nb kp = true) (h3 : Q.get .normal s') : @awpL W ⟨.gcp⟩ Q s :=
  awpL_gcp kp lv h1 h2 (h ▸ h3)
theorem awpL_rangeF2 {W : W} {Q : Lz (Ex → St → Prop)} {s : St} {g : Opd} {p : Nat} {asg body : AC} {f : Nat} {fs cs : List T} (L : List Value) (inv : Nat → List AO → Prop) (kp lv : List Nat) (envg : List (Nat × E)) (dfg : List Df) (hg1 : (s.gc kp lv).env = envg) (hg2 : (s.gc kp lv).df = dfg) (hro : W.ro = none) (hg : g.ev s.env = .t (.fn (.func f) fs cs))
    (hgen : AGen W.P f (fs.map .t ++ .yld :: cs.map .t) L) (h1 : gcOK kp s.σ = true) (h2 : keepsBase W.nb kp = true) (h3 : inv 0 (σgc kp s.σ 12))
    (hr : ∀ l j v σ, L[j]? = some v → inv j σ → @awpL { P := W.P, nb := kp.length, pn := [], ro := some l, yp := fun _ _ => False } ⟨asg⟩
        ⟨fun e s1 => match e with | .normal => @awpL { P := W.P, nb := kp.length, pn := [], ro := some l, yp := fun _ _ => False } ⟨body⟩ ⟨fun e s' => match e with | .normal => s'.df = [] ∧ s'.k = s.k ∧ ∃ kp', gcOK kp' s'.σ = true ∧ keepsBase kp.length kp' = true ∧ inv (j + 1) (σgc kp' s'.σ 12) | _ => False⟩ s1 | _ => False⟩
        { env := (p, .t (T.ofV v)) :: envg, σ := σ, df := [], k := s.k })
    (hq : ∀ σ, inv L.length σ → Q.get .normal { env := envg, σ := σ, df := .mark :: dfg, k := s.k }) : @awpL W ⟨.rangeF g p asg body⟩ Q s := by
  subst hg1
  subst hg2
  exact awpL_rangeF L inv kp lv hro hg hgen h1 h2 h3 hr hq
end Go.Ab
namespace Go.Ab
def unN (id : Nat) : E → E
  | .loc i n => if i = id ∧ n = 0 then .t (.lit (.slice none 0 0)) else .loc i n
  | e => e
theorem ACall.ghost {P : Program} {f : Nat} {args0 : List E} {σ : List AO} {R : Out → List AO → Prop} (es : Nat) (he : 0 < es) (h : ACall P f args0 (σ ++ [.row es []]) R) : ACall P f (args0.map (unN σ.length)) σ R := by
  refine ⟨h.1, fun C k w ι vis D vs hC M r => ?_⟩
  obtain ⟨M', g⟩ := M.ghost he
  have r' : RepEs C.yl ι (σ ++ [.row es []]) (hp vis w) args0 vs := by
    obtain ⟨hl, hr⟩ := RepEs_iff.1 r
    refine RepEs_iff.2 ⟨by simpa using hl, fun i x v hx hv => ?_⟩
    have h1 := hr i (unN σ.length x) v (by rw [List.getElem?_map, hx]; rfl) hv
    cases x with
    | loc j n =>
      simp only [unN] at h1
      split at h1
      · rename_i hc
        obtain ⟨rfl, rfl⟩ := hc
        unfold RepE RepT at h1
        subst h1
        exact ghost_rep M
      · exact h1.mono g (Hp.le_refl _)
    | _ => exact h1.mono g (Hp.le_refl _)
  refine (h.2 C k w ι vis D vs hC M' r').mono fun e w' ⟨o, σ', ι', vis', D', h1, h2, u, h4, h5⟩ => ⟨o, σ', ι', vis', D', h1, h2, ?_, h4, h5⟩
  exact (Up.of g (Hp.le_refl _) (Nat.le_refl _) fun i b c h => .inl ⟨i, c, h⟩).trans u
def Out.gc (kp : List Nat) (σ : List AO) : Out → Out
  | .ret e => .ret (E.gc kp σ 12 e)
  | .pan x => .pan x
theorem ACall.strike {P : Program} {f : Nat} {args : List E} {R : Out → List AO → Prop} (h : ACall P f args [] R) : ACall P f args [] fun o σ => ∃ o0 σ0, R o0 σ0 ∧ o = o0.gc [] σ0 ∧ σ = [] := by
  refine ⟨h.1, fun C k w ι vis D vs hC M r => ?_⟩
  refine (h.2 C k w ι vis D vs hC M r).mono fun e w' ⟨o, σ', ι', vis', D', h1, h2, u, h4, h5⟩ => ?_
  have M' := h2.gc 12 (kp := []) rfl
  refine ⟨o.gc [] σ', [], gcPl [] ι', gcVis [] ι' vis', D', ⟨o, σ', h1, rfl, rfl⟩, M', ?_, h4, ?_⟩
  · have u1 := UpN.of (nb := 0) (Nat.zero_le _) u
    have u2 := UpN.gc (s := { env := [], σ := σ' }) (kp := []) (lv := []) (UpN.refl (nb := 0) (Nat.zero_le _) ι' vis' w') rfl
    have u3 : UpN ([] : List AO).length ι [] vis w (gcPl [] ι') [] (gcVis [] ι' vis') w' := u1.trans u2
    exact u3.up
  · cases o with
    | ret x =>
      cases e with
      | returned v => exact gc_ok h2 12 12 x v h5 rfl
      | panicked c => exact h5.elim
      | outgrown => exact h5.elim
    | pan x =>
      cases e with
      | returned v => exact h5.elim
      | panicked c => obtain ⟨v, e, r⟩ := h5; exact ⟨v, e, r.mono (gc_le _ _ _ _)⟩
      | outgrown => exact h5.elim
end Go.Ab
