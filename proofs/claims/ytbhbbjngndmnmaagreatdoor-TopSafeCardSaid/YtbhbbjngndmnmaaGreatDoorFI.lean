/- Proved here: laws that the statements need (AbN, AbN1, AbN3, AbN4, AbN2). No conditions but those that each law states. -/
import Derived.Test.YtbhbbjngndmnmaaGreatDoorFH
import Derived.RangeFuncRecord
set_option linter.unusedSimpArgs false
set_option linter.unusedVariables false
namespace Go.Ab
def ExM (h : Hp) : Exit → Ex → Prop
  | .normal, .normal => True
  | .exit i, .exit j => i = j
  | .ret, .ret => True
  | .panic chain, .pan x => ∃ v, chain = [{ v, recovered := false }] ∧ RepT h x v
  | _, _ => False
def Lift (C : Cx) (nb : Nat) (ι : Pl) (σ : List AO) (vis : Nat → Prop) (w : World) (D : Nat → Prop) (Q : Ex → St → Prop) : Exit → Act → World → Prop :=
  fun e a' w' => ∃ s' ι' vis' D' x, ExM (hp vis' w') e x ∧ Q x s' ∧ InvX C s' a' w' ι' vis' D' ∧ UpN nb ι σ vis w ι' s'.σ vis' w' ∧ UpD D w D'
section
variable {C : Cx} {s : St} {a : Act} {w : World} {ι : Pl} {vis D : Nat → Prop} {nb : Nat}
theorem InvX.put (X : InvX C s a w ι vis D) {d : Option Nat} (hd : dstOK C.nt d = true) {e : E} {v : Value} (r : RepE C.yl ι s.σ (hp vis w) e v) : InvX C (s.put d e) (a.put d v) w ι vis D := by
  cases d with
  | none => exact X
  | some d =>
    have hlt : d < a.tmps.size := by rw [X.sz]; simpa [dstOK] using hd
    refine ⟨X.mem, by simpa [Act.put] using X.sz, fun i => ?_, X.df⟩
    simp only [St.put, Act.put, lk]
    split
    · rename_i e; subst e; simpa [hlt] using r
    · rename_i e
      have := X.env i
      simpa [Array.getElem?_setIfInBounds_ne (fun h => e h.symm)] using this
theorem want_none {ops : Array Oper} {o : Oper} (hg : compG ops o.guard = some none) : Region.wanted o (yielded ops a.tmps) = true := by
  unfold compG at hg
  unfold Region.wanted
  split at hg
  · rename_i h
    simp [h]
  · split at hg <;> simp at hg
theorem want_some (X : InvX C s a w ι vis D) {ops : Array Oper} {o : Oper} {t : Nat} {b : Bool} {v : Value} (hg : compG ops o.guard = some (some (t, b))) (hv : lk s.env t = .t (.lit v)) : Region.wanted o (yielded ops a.tmps) = gv v b := by
  unfold compG at hg
  unfold Region.wanted
  split at hg
  · cases hg
  · rename_i j c h
    split at hg
    · rename_i t' ht
      cases hg
      simp only [h]
      have r := X.env t
      rw [hv] at r
      unfold RepE RepT at r
      unfold yielded
      rw [ht]
      simp only [Option.bind_some]
      rw [← r]
      cases hu : a.tmps[t]? with
      | none => simp [hu, gv, undef]
      | some u => simp only [Array.getD_eq_getD_getElem?, hu, Option.getD_some]; cases u <;> simp [gv]
    · cases hg
theorem InvX.cut (X : InvX C s a w ι vis D) (pn : List Nat) : InvX C (s.cut pn) a w ι vis D := by
  refine ⟨X.mem, X.sz, fun i => ?_, X.df⟩
  have key : ∀ (pn : List Nat), RepE C.yl ι s.σ (hp vis w) (lk (pn.map fun t => (t, lk s.env t)) i) (a.tmps.getD i undef) := by
    intro pn
    induction pn with
    | nil => simp only [List.map_nil, lk]; unfold RepE; trivial
    | cons l pn ih =>
      simp only [List.map_cons, lk]
      split
      · rename_i e; subst e; exact X.env _
      · exact ih
  exact key pn
theorem InvX.eqv {s' : St} (h : Eqv s s') (X : InvX C s a w ι vis D) : InvX C s' a w ι vis D := by
  obtain ⟨hσ, hdf, hk, henv⟩ := h
  refine ⟨by rw [← hσ, ← hk]; exact X.mem, X.sz, fun i => by rw [← hσ, ← henv]; exact X.env i, by rw [← hσ, ← hdf]; exact X.df⟩
theorem Mem.round {k k' : Nat} {σ : List AO} {w' : World} {D' : Nat → Prop} (M : Mem C k σ w ι vis D) (hu : UpD D w D') (hb : ∀ b, b < w.heap.size → ¬ D b → w'.heap[b]? = w.heap[b]?) (hs : w.heap.size ≤ w'.heap.size)
    (hD : ∀ b, D' b → b < w'.heap.size) (hh : C.hist k' D' w') : Mem C k' σ w' ι vis D' ∧ Up ι σ vis w ι σ vis w' := by
  have hle : (hp vis w).le (hp vis w') := fun b o ⟨h1, h2⟩ => ⟨h1, by rw [hb b (M.visLt b h1) (M.visD b h1)]; exact h2⟩
  have hnew : ∀ b, b < w.heap.size → ¬ D b → ¬ D' b := fun b h1 h2 h3 => by
    rcases hu.2 b h3 with h | h
    · exact h2 h
    · omega
  refine ⟨⟨M.glob.mono hle, M.inj, fun i b c hi => ?_, fun b hb => Nat.lt_of_lt_of_le (M.visLt b hb) hs, hD, fun b hb => hnew b (M.visLt b hb) (M.visD b hb), fun i o hi => ?_, hh⟩, ⟨Goes.refl _ _, hle, hs, fun i b c h => .inl ⟨i, c, h⟩, fun _ h => .inl h⟩⟩
  · obtain ⟨h1, h2, h3, h4⟩ := M.own i b c hi
    exact ⟨h1, Nat.lt_of_lt_of_le h2 hs, h3, hnew b h2 h4⟩
  · have ho := M.objs i o hi
    cases hp : ι i with
    | none => rw [hp] at ho; exact ho
    | some bc =>
      obtain ⟨b, c⟩ := bc
      rw [hp] at ho
      obtain ⟨ob, h1, h2⟩ := ho
      obtain ⟨_, h3, _, h4⟩ := M.own i b c hp
      exact ⟨ob, by rw [hb b h3 h4]; exact h1, h2.mono (Goes.refl _ _) hle⟩
theorem res_ok {W : W} {o : Oper} {Q' : Exit → Act → World → Prop} {K : E → St → Prop} {Kp : T → St → Prop} {next : Act → World → Prop} {vis₀ : Nat → Prop} {w₀ : World} (hY : YOK C vis₀ w₀ W.yp W.sk W.pk) (hle₀ : (hp vis₀ w₀).le (hp vis w)) (hP0 : W.P = C.P) (X : InvX C s a w ι vis D)
    (hK : ∀ e s' a' v w' ι' vis' D', K e s' → s'.env = s.env → InvX C s' a' w' ι' vis' D' → Up ι s.σ vis w ι' s'.σ vis' w' → UpD D w D' → RepE C.yl ι' s'.σ (hp vis' w') e v → next (a'.put o.dst v) w')
    (hP : ∀ x s' v w' ι' vis' D', Kp x s' → InvX C s' a w' ι' vis' D' → Up ι s.σ vis w ι' s'.σ vis' w' → UpD D w D' → RepT (hp vis' w') x v → Q' (.panic [{ v, recovered := false }]) a w') :
    ∀ {r : Res}, ((∀ c, o.op ≠ .defer c) ∨ ∃ f as, r = .defer f as) → ResOK C s o a w ι vis D r → wpRes W s K Kp r → o.wpIn (FR W.ro) 0 C.P a w next Q' := by
  have hsem : (∀ c, o.op ≠ .defer c) → ∀ ro, o.semAt ro a.eval = execOp a.eval o := fun hd ro => Oper.semAt_eq ro _ o hd
  have nod : ∀ {r : Res}, ((∀ c, o.op ≠ .defer c) ∨ ∃ f as, r = .defer f as) → (∀ f as, r ≠ .defer f as) → ∀ c, o.op ≠ .defer c := fun h hne => by
    rcases h with h | ⟨f, as, h⟩
    · exact h
    · exact absurd h (hne f as)
  intro r
  induction r with
  | no => intro _ _ h; exact h.elim
  | triv => intro _ h; exact h.elim
  | any k ih =>
    intro hd ⟨i, h⟩ h0
    exact ih i (.inl (nod hd (fun _ _ => by simp))) h (h0 i)
  | ok e σ' =>
    rintro hd ⟨v, w', ι', hr, X', u, r⟩ h
    refine ⟨fun _ _ => trivial, ?_⟩
    rw [hsem (nod hd (fun _ _ => by simp))]
    rcases hr with hr | ⟨hr, rfl⟩ <;> rw [hr]
    · exact hK e _ a v w' ι' vis D h rfl X' u (UpD.refl _ _) r
    · exact hK e _ a undef w' ι' vis D h rfl X' u (UpD.refl _ _) r
  | pan x =>
    rintro hd ⟨v, hr, r⟩ h
    refine ⟨fun _ _ => trivial, ?_⟩
    rw [hsem (nod hd (fun _ _ => by simp)), hr]
    exact hP x _ v w ι vis D h (X.cut _) (Up.refl _ _ _ _) (UpD.refl _ _) r
  | call f args =>
    rintro hd ⟨vs, r, hr⟩ ⟨hpl, h⟩
    rw [hP0] at hpl
    refine ⟨fun _ _ => trivial, ?_⟩
    rw [hsem (nod hd (fun _ _ => by simp)), hr hpl, Oper.uponIn_enter]
    refine ⟨fun hc => by simp [FR, Fence.wide] at hc, ?_⟩
    have hcall := h C (C.k0 + s.k) w ι vis D vs hP0.symm X.mem r
    rw [hP0] at hcall
    have hcall' : CallsIn (FR W.ro) 0 C.P f vs.toArray w _ := hcall
    refine hcall'.mono fun e w' ⟨o', σ', ι', vis', D', h1, M', u, ud, hout⟩ => ?_
    have X' : InvX C { s with σ := σ' } a w' ι' vis' D' := X.go M' u.goes u.le
    cases o' with
    | ret e' =>
      cases e with
      | returned v => exact hK e' _ a v w' ι' vis' D' h1 rfl X' u ud hout
      | panicked chain => exact hout.elim
      | outgrown => exact hout.elim
    | pan x =>
      cases e with
      | returned v => exact hout.elim
      | panicked chain =>
        obtain ⟨v, rfl, r⟩ := hout
        exact hP x _ v w' ι' vis' D' h1 (X'.cut _) u ud r
      | outgrown => exact hout.elim
  | yield args =>
    rintro hd ⟨vs, r, hr⟩ h
    simp only [wpRes] at h
    split at h
    · split at h
      rotate_left
      · exact h.elim
      rename_i v hv
      obtain ⟨hro, hyp, hst, hpn, h⟩ := h
      unfold RepEs at r
      obtain ⟨v', us, rfl, r1, r2⟩ := r
      unfold RepEs at r2
      subst r2
      unfold RepE at r1
      obtain rfl := T.val?_rep hv r1
      refine ⟨fun _ _ => trivial, ?_⟩
      obtain ⟨fn, tmps, assign, body, hy, hround⟩ := hY s.k D w v' X.mem.hist (fun b o h1 h2 => (hle₀ b o ⟨h1, h2⟩).2) hyp
      rw [hsem (nod hd (fun _ _ => by simp)), hr, hy, Oper.uponIn_round]
      refine ⟨fun hc => by simp [FR, Fence.wide] at hc, ?_⟩
      rw [hro]
      refine hround.mono fun e w' ⟨k', hek, D', h1, h2, h3, h4, h5⟩ => ?_
      obtain ⟨M', u⟩ := X.mem.round (k' := C.k0 + k') h1 h2 h3 h4 h5
      rcases hek with ⟨rfl, rfl⟩ | ⟨rfl, hsk⟩ | ⟨x, hpk, v2, rfl, rv2⟩
      · exact hK _ { s with k := s.k + 1 } a (.bool true) w' ι vis D' h rfl ⟨M', X.sz, fun i => (X.env i).mono u.goes u.le, RepDs.mono u.goes u.le _ _ X.df⟩ u h1 (by unfold RepE RepT; rfl)
      · rw [hsk] at hst
        exact hK _ { s with k := k' } a (.bool false) w' ι vis D' hst rfl ⟨M', X.sz, fun i => (X.env i).mono u.goes u.le, RepDs.mono u.goes u.le _ _ X.df⟩ u h1 (by unfold RepE RepT; rfl)
      · rw [hpk] at hpn
        have Xk : InvX C { s with k := k' } a w' ι vis D' := ⟨M', X.sz, fun i => (X.env i).mono u.goes u.le, RepDs.mono u.goes u.le _ _ X.df⟩
        exact hP x _ v2 w' ι vis D' hpn (Xk.cut _) u h1 (rv2 _)
    · exact h.elim
  | defer f args =>
    rintro hd ⟨⟨c, hc⟩, vs, cs, r, hr⟩ ⟨hro, h⟩
    refine ⟨fun _ _ => trivial, ?_⟩
    have hsem' : o.semAt (FR W.ro).round a.eval = execOp a.eval o := by
      have : (FR W.ro).round = none := hro
      rw [this, Oper.semAt_none]
    rw [hsem', hr, Oper.uponIn_defer]
    refine hK _ { s with df := .call f args :: s.df } { a with defers := _ } undef w ι vis D h rfl ⟨X.mem, X.sz, X.env, ?_⟩ (Up.refl _ _ _ _) (UpD.refl _ _) (by unfold RepE RepT; rfl)
    exact ⟨_, _, rfl, ⟨vs, cs, rfl, r⟩, (fun b hb => (by cases hb)), X.df⟩
  | need c r ih => intro hd h1 h2; exact ih (.inl (nod hd (fun _ _ => by simp))) (h1 h2.1) h2.2
theorem Lift.of {Q : Ex → St → Prop} {e : Exit} {x : Ex} {ι' : Pl} {vis' D' : Nat → Prop} {s' : St} {w' : World} {a' : Act} {σ : List AO} (hx : ExM (hp vis' w') e x) (hq : Q x s') (X : InvX C s' a' w' ι' vis' D') (u : UpN nb ι σ vis w ι' s'.σ vis' w') (ud : UpD D w D') :
    Lift C nb ι σ vis w D Q e a' w' := ⟨s', ι', vis', D', x, hx, hq, X, u, ud⟩
theorem compOp_defer {P : Program} {o : Oper} {i : AOp} (h : compOp P o = some i) : (∀ c, o.op ≠ .defer c) ∨ (∃ f as, i = .defer f as) ∨ ∃ x as, i = .deferF x as := by
  by_cases hd : ∃ c, o.op = .defer c
  · obtain ⟨c, hc⟩ := hd
    right
    unfold compOp at h
    rw [hc] at h
    simp only at h
    split at h
    · obtain ⟨as, _, rfl⟩ := Option.map_eq_some_iff.1 h
      exact .inl ⟨_, _, rfl⟩
    · split at h
      · cases h
        exact .inr ⟨_, _, rfl⟩
      · cases h
    · cases h
  · exact .inl fun c hc => hd ⟨c, hc⟩
theorem compOpX_defer {P : Program} {ops : Array Oper} {o : Oper} {i : AOp} (h : compOpX P ops o = some i) : (∀ c, o.op ≠ .defer c) ∨ (∃ f as, i = .defer f as) ∨ ∃ x as, i = .deferF x as := by
  unfold compOpX at h
  split at h
  · rename_i x ho
    exact .inl fun c hc => by rw [ho] at hc; cases hc
  · exact compOp_defer h
theorem i_ok {W : W} {ops : Array Oper} {K : St → Prop} {Kp : T → St → Prop} {Q' : Exit → Act → World → Prop} {next : Act → World → Prop} {k : Nat} {o : Oper} {i : AI} {vis₀ : Nat → Prop} {w₀ : World} (hY : YOK C vis₀ w₀ W.yp W.sk W.pk) (hle₀ : (hp vis₀ w₀).le (hp vis w)) (hP0 : W.P = C.P) (X : InvX C s a w ι vis D)
    (ho : ops[k]? = some o) (hi : compI C.P C.nt ops o = some i)
    (hK : ∀ s' a' w' ι' vis' D', K s' → InvX C s' a' w' ι' vis' D' → Up ι s.σ vis w ι' s'.σ vis' w' → UpD D w D' → next a' w')
    (hP : ∀ x s' v w' ι' vis' D', Kp x s' → InvX C s' a w' ι' vis' D' → Up ι s.σ vis w ι' s'.σ vis' w' → UpD D w D' → RepT (hp vis' w') x v → Q' (.panic [{ v, recovered := false }]) a w')
    (h : wpI W i K Kp s) : if Region.wanted o (yielded ops a.tmps) = true then o.wpIn (FR W.ro) 0 C.P a w next Q' else (∀ f, o.about C.P w a.eval = some f → (FR W.ro).fn f) ∧ next (a.put o.dst undef) w := by
  unfold compI at hi
  split at hi
  · rename_i op g hop hg
    split at hi
    rotate_left
    · cases hi
    rename_i hdst
    cases hi
    have hputσ : ∀ (s : St) (d : Option Nat) (e : E), (s.put d e).σ = s.σ := fun s d e => by cases d <;> rfl
    have go : wpRes W s (fun e s' => K (s'.put o.dst e)) Kp (op.ex s.env s.σ) → o.wpIn (FR W.ro) 0 C.P a w next Q' := fun h => by
      have hd : (∀ c, o.op ≠ .defer c) ∨ ∃ f as, op.ex s.env s.σ = .defer f as := by
        rcases compOpX_defer hop with h' | ⟨f, as, rfl⟩ | ⟨x, as, rfl⟩
        · exact .inl h'
        · exact .inr ⟨_, _, rfl⟩
        · right
          simp only [AOp.ex] at h ⊢
          split at h
          · exact ⟨_, _, rfl⟩
          · exact h.elim
      refine res_ok hY hle₀ hP0 X ?_ hP hd (opX_ok X hop) h
      intro e s' a' v w' ι' vis' D' hk _ X' u ud r
      exact hK _ _ w' ι' vis' D' hk (X'.put hdst r) (by rw [hputσ]; exact u) ud
    simp only [wpI] at h
    split at h
    · rw [if_pos (want_none hg)]
      exact go h
    · rename_i t b
      split at h
      · rename_i v hv
        have hw := want_some X hg hv
        by_cases hb : gv v b = true
        · rw [if_pos (by rw [hw]; exact hb)]
          exact go (h.1 hb)
        · have hb' : gv v b = false := by simpa using hb
          rw [if_neg (by rw [hw, hb']; simp)]
          refine ⟨fun _ _ => trivial, ?_⟩
          exact hK _ _ w ι vis D (h.2 hb') (X.put hdst (e := .t (.lit undef)) (v := undef) (by unfold RepE RepT; rfl)) (by rw [hputσ]; exact Up.refl _ _ _ _) (UpD.refl _ _)
      · exact h.elim
  · cases hi
theorem is_ok {W : W} {ops : Array Oper} {Q : Ex → St → Prop} {ι₀ : Pl} {σ₀ : List AO} {vis₀ D₀ : Nat → Prop} {w₀ : World} (hY : YOK C vis₀ w₀ W.yp W.sk W.pk) (hP0 : W.P = C.P) : ∀ (l : List Oper) (k : Nat) {is : List AI} {s : St} {a : Act} {w : World} {ι : Pl} {vis D : Nat → Prop},
    (∀ j : Nat, l[j]? = ops[k + j]?) → compIs C.P C.nt ops l = some is → InvX C s a w ι vis D → UpN nb ι₀ σ₀ vis₀ w₀ ι s.σ vis w → UpD D₀ w₀ D →
    wpIs W (Q .normal) (fun x s => Q (.pan x) s) is s → wpOpsIn (FR W.ro) 0 C.P ops (Lift C nb ι₀ σ₀ vis₀ w₀ D₀ Q) (List.range' k l.length) a w
  | [], k, is, s, a, w, ι, vis, D, _, hc, X, U, ud, h => by
    simp only [compIs] at hc
    cases hc
    simp only [List.length_nil, List.range'_zero, wpOpsIn]
    exact Lift.of (x := .normal) trivial h X U ud
  | o :: l, k, is, s, a, w, ι, vis, D, hl, hc, X, U, ud, h => by
    simp only [compIs] at hc
    split at hc
    · rename_i i is' hi his
      cases hc
      have h0 : ops[k]? = some o := by simpa using (hl 0).symm
      have hl' : ∀ j : Nat, l[j]? = ops[k + 1 + j]? := fun j => by have := hl (j + 1); simpa [Nat.add_assoc, Nat.add_comm 1 j] using this
      simp only [List.length_cons, List.range'_succ, wpOpsIn, h0]
      have hnb : nb ≤ s.σ.length := U.len'
      refine i_ok hY U.le hP0 X h0 hi ?_ ?_ h
      · intro s' a' w' ι' vis' D' hk X' u ud'
        exact is_ok hY hP0 l (k + 1) hl' his X' (U.trans (UpN.of hnb u)) (ud.trans ud' U.size) hk
      · intro x s' v w' ι' vis' D' hk X' u ud' r
        exact Lift.of (x := .pan x) ⟨v, rfl, r⟩ hk X' (U.trans (UpN.of hnb u)) (ud.trans ud' U.size)
    · cases hc
theorem compIs_get {P : Program} {nt : Nat} {ops : Array Oper} : ∀ {l : List Oper} {is : List AI}, compIs P nt ops l = some is → ∀ (j : Nat) o, l[j]? = some o → ∃ i, is[j]? = some i ∧ compI P nt ops o = some i
  | [], _, _, j, o, h => by simp at h
  | x :: l, is, hc, j, o, h => by
    simp only [compIs] at hc
    split at hc
    · rename_i i is' h1 h2
      cases hc
      cases j with
      | zero => simp at h; subst h; exact ⟨i, rfl, h1⟩
      | succ j => simpa using compIs_get h2 j o (by simpa using h)
    · cases hc
theorem any_ok {W : W} {ops : Array Oper} {is : List AI} {Q : Ex → St → Prop} {ι₀ : Pl} {σ₀ : List AO} {vis₀ D₀ : Nat → Prop} {w₀ : World} (hY : YOK C vis₀ w₀ W.yp W.sk W.pk) (hP0 : W.P = C.P) (his : compIs C.P C.nt ops ops.toList = some is) : ∀ (n : Nat) {O : List Nat} {listed : Array Bool} {s : St} {a : Act} {w : World} {ι : Pl} {vis D : Nat → Prop},
    InvX C s a w ι vis D → UpN nb ι₀ σ₀ vis₀ w₀ ι s.σ vis w → UpD D₀ w₀ D → wpAnyA W ops is (fun s => ∃ s', Eqv s s' ∧ Q .normal s') (fun x s => Q (.pan x) s) n O listed s →
    wpAnyIn (FR W.ro) 0 C.P .any ops (Lift C nb ι₀ σ₀ vis₀ w₀ D₀ Q) n listed a w := by
  have fin : ∀ {s : St} {a : Act} {w : World} {ι : Pl} {vis D : Nat → Prop}, InvX C s a w ι vis D → UpN nb ι₀ σ₀ vis₀ w₀ ι s.σ vis w → UpD D₀ w₀ D → (∃ s', Eqv s s' ∧ Q .normal s') → Lift C nb ι₀ σ₀ vis₀ w₀ D₀ Q .normal a w := fun X U ud ⟨s', he, hq⟩ =>
    Lift.of (x := .normal) trivial hq (X.eqv he) (by rw [← he.σ]; exact U) ud
  intro n
  induction n with
  | zero => intro O listed s a w ι vis D X U ud h; exact ⟨h.1, fin X U ud h.2⟩
  | succ n ih =>
    intro O listed s a w ι vis D X U ud h
    refine ⟨fun h0 => fin X U ud (h.1 h0), fun j hj => ?_⟩
    unfold wpOpIn
    split
    · rename_i hn
      obtain ⟨_, o, ho, _⟩ := mem_ready.1 hj
      rw [hn] at ho; cases ho
    · rename_i o ho
      obtain ⟨i, hi, hci⟩ := compIs_get his j o (by simpa using ho)
      have h1 := h.2 j hj i hi
      have hnb : nb ≤ s.σ.length := U.len'
      refine i_ok hY U.le hP0 X ho hci ?_ ?_ h1
      · intro s' a' w' ι' vis' D' hk X' u ud'
        exact ih X' (U.trans (UpN.of hnb u)) (ud.trans ud' U.size) hk.2
      · intro x s' v w' ι' vis' D' hk X' u ud' r
        exact Lift.of (x := .pan x) ⟨v, rfl, r⟩ hk X' (U.trans (UpN.of hnb u)) (ud.trans ud' U.size)
theorem any_okI {W : W} {ops : Array Oper} {is : List AI} {Q : Ex → St → Prop} {ι₀ : Pl} {σ₀ : List AO} {vis₀ D₀ : Nat → Prop} {w₀ : World} (hY : YOK C vis₀ w₀ W.yp W.sk W.pk) (hP0 : W.P = C.P) (his : compIs C.P C.nt ops ops.toList = some is) {I : (Nat → Bool) → St → Prop}
    (hdeps : ∀ j, j < ops.size → ∀ d ∈ preds ops j, d < j) (hlen : is.length = ops.size)
    (hI : ∀ L s j i, I L s → is[j]? = some i → L j = false → (∀ d ∈ preds ops j, L d = true) → wpI W i (fun s' => I (fun x => x == j || L x) s') (fun x s => Q (.pan x) s) s) (hQ : ∀ L s, I L s → (∀ j, j < is.length → L j = true) → Q .normal s) :
    ∀ (n : Nat) {listed : Array Bool} {s : St} {a : Act} {w : World} {ι : Pl} {vis D : Nat → Prop}, listed.size = ops.size → ((List.range ops.size).filter fun j => !listed.getD j false).length ≤ n →
    InvX C s a w ι vis D → UpN nb ι₀ σ₀ vis₀ w₀ ι s.σ vis w → UpD D₀ w₀ D → I (fun j => listed.getD j false) s →
    wpAnyIn (FR W.ro) 0 C.P .any ops (Lift C nb ι₀ σ₀ vis₀ w₀ D₀ Q) n listed a w := by
  have all : ∀ {listed : Array Bool}, listed.size = ops.size → Region.ready .any ops listed = [] → ∀ j, j < ops.size → listed.getD j false = true := by
    intro listed hs hr j
    induction j using Nat.strongRecOn with
    | _ j ih =>
      intro hj
      cases hb : listed.getD j false with
      | true => rfl
      | false =>
        have : j ∈ Region.ready .any ops listed := by
          refine mem_ready.2 ⟨?_, ops[j], Array.getElem?_eq_getElem hj, fun e he hbi => ?_⟩
          · simp only [Array.getD_eq_getD_getElem?, Array.getElem?_eq_getElem (show j < listed.size by omega), Option.getD_some] at hb ⊢
            exact hb
          · have hm : e.on ∈ preds ops j := by
              unfold preds
              rw [Array.getElem?_eq_getElem hj]
              exact List.mem_map.2 ⟨e, List.mem_filter.2 ⟨by simpa using he, hbi⟩, rfl⟩
            have hlt := hdeps j hj _ hm
            exact ih e.on hlt (by omega)
        rw [hr] at this
        cases this
  have fin : ∀ {listed : Array Bool} {s : St} {a : Act} {w : World} {ι : Pl} {vis D : Nat → Prop}, listed.size = ops.size → Region.ready .any ops listed = [] → InvX C s a w ι vis D → UpN nb ι₀ σ₀ vis₀ w₀ ι s.σ vis w → UpD D₀ w₀ D → I (fun j => listed.getD j false) s →
      Lift C nb ι₀ σ₀ vis₀ w₀ D₀ Q .normal a w := fun hs hr X U ud h => Lift.of (x := .normal) trivial (hQ _ _ h fun j hj => all hs hr j (by omega)) X U ud
  intro n
  induction n with
  | zero =>
    intro listed s a w ι vis D hs hc X U ud h
    have hr : Region.ready .any ops listed = [] := by
      apply List.eq_nil_iff_forall_not_mem.2
      intro j hj
      obtain ⟨h1, o, ho, _⟩ := mem_ready.1 hj
      have hjl := (Array.getElem?_eq_some_iff.1 ho).1
      have h2 : listed.getD j false = false := by
        simp only [Array.getD_eq_getD_getElem?, Array.getElem?_eq_getElem (show j < listed.size by omega), Option.getD_some] at h1 ⊢
        exact h1
      have h3 : j ∈ (List.range ops.size).filter fun j => !listed.getD j false := List.mem_filter.2 ⟨List.mem_range.2 hjl, by simp [h2]⟩
      have := List.length_pos_of_mem h3
      omega
    exact ⟨hr, fin hs hr X U ud h⟩
  | succ n ih =>
    intro listed s a w ι vis D hs hc X U ud h
    refine ⟨fun h0 => fin hs h0 X U ud h, fun j hj => ?_⟩
    unfold wpOpIn
    split
    · rename_i hn
      obtain ⟨_, o, ho, _⟩ := mem_ready.1 hj
      rw [hn] at ho; cases ho
    · rename_i o ho
      obtain ⟨i, hi, hci⟩ := compIs_get his j o (by simpa using ho)
      obtain ⟨h1, o', ho', haft⟩ := mem_ready.1 hj
      rw [ho] at ho'; cases ho'
      have hjl := (Array.getElem?_eq_some_iff.1 ho).1
      have h2 : listed.getD j false = false := by
        simp only [Array.getD_eq_getD_getElem?, Array.getElem?_eq_getElem (show j < listed.size by omega), Option.getD_some] at h1 ⊢
        exact h1
      have hw := hI _ s j i h hi h2 (fun d hd => by
        unfold preds at hd
        rw [ho] at hd
        obtain ⟨e, he, rfl⟩ := List.mem_map.1 hd
        obtain ⟨he1, he2⟩ := List.mem_filter.1 he
        exact haft e (by simpa using he1) he2)
      have hL : (fun x => x == j || listed.getD x false) = fun x => (listed.setIfInBounds j true).getD x false := by
        funext x
        by_cases hx : x = j
        · subst hx; simp [show x < listed.size by omega]
        · have : (listed.setIfInBounds j true).getD x false = listed.getD x false := by simp [Array.getElem?_setIfInBounds_ne (fun h => hx h.symm)]
          rw [this]; simp [hx]
      rw [hL] at hw
      have hc' : ((List.range ops.size).filter fun x => !(listed.setIfInBounds j true).getD x false).length ≤ n := by
        have hsub : ((List.range ops.size).filter fun x => !(listed.setIfInBounds j true).getD x false) = ((List.range ops.size).filter fun x => !listed.getD x false).filter fun x => x != j := by
          rw [List.filter_filter]
          apply List.filter_congr
          intro x _
          have e : (x == j || listed.getD x false) = (listed.setIfInBounds j true).getD x false := congrFun hL x
          rw [← e]
          generalize listed.getD x false = b
          have hxb : (x != j) = !(x == j) := rfl
          rw [hxb]
          generalize (x == j) = c
          cases b <;> cases c <;> rfl
        have hnd : ((List.range ops.size).filter fun x => !listed.getD x false).Nodup := List.nodup_range.filter _
        have hmem : j ∈ (List.range ops.size).filter fun x => !listed.getD x false := List.mem_filter.2 ⟨List.mem_range.2 hjl, by simp [h2]⟩
        rw [hsub, ← hnd.erase_eq_filter, List.length_erase_of_mem hmem]
        omega
      have hnb : nb ≤ s.σ.length := U.len'
      refine i_ok hY U.le hP0 X ho hci ?_ ?_ hw
      · intro s' a' w' ι' vis' D' hk X' u ud'
        exact ih (by simpa using hs) hc' X' (U.trans (UpN.of hnb u)) (ud.trans ud' U.size) hk
      · intro x s' v w' ι' vis' D' hk X' u ud' r
        exact Lift.of (x := .pan x) ⟨v, rfl, r⟩ hk X' (U.trans (UpN.of hnb u)) (ud.trans ud' U.size)
theorem compIs_len {P : Program} {nt : Nat} {ops : Array Oper} : ∀ {l : List Oper} {is : List AI}, compIs P nt ops l = some is → is.length = l.length
  | [], is, h => by simp only [compIs] at h; cases h; rfl
  | o :: l, is, h => by
    simp only [compIs] at h
    split at h
    · rename_i h1 h2
      cases h
      rw [List.length_cons, compIs_len h2, List.length_cons]
    · cases h
theorem wpIn_scope {F : Fence} {n : Nat} {P : Program} {c : Code} {Q : Exit → Act → World → Prop} (hq : ∀ l a w, ¬ Q (.goto l) a w) (h : c.wpIn F n P Q a w) : (Code.scope c).wpIn F n P Q a w := by
  intro b k cs hro hb hr
  have s0 : step P (lone (b.atR a (.code (.scope c) :: k)) cs w) = .next (lone (b.atR a (.code c :: .inScope c :: k)) cs w) := step_lone_go (by simp [stepG, stepG.exec, Frame.atR])
  have h0 : (lone (b.atR a (.code (.scope c) :: k)) cs w).fenced P F := fenced_calm hb hr rfl
  obtain ⟨e, a₁, w₁, hq', harr⟩ := h b (.inScope c :: k) cs hro hb hr
  cases e with
  | normal =>
    have s1 : step P (lone (b.atR a₁ (.inScope c :: k)) cs w₁) = .next (lone (b.atR a₁ k) cs w₁) := step_lone_go (by simp [stepG, stepG.exec, Frame.atR])
    exact ⟨.normal, a₁, w₁, hq', .head h0 s0 (StepsIn.trans harr (.one (fenced_calm hb hr rfl) s1))⟩
  | exit id =>
    have hx : exitTo id (.inScope c :: k) = exitTo id k := by simp [exitTo]
    exact ⟨_, a₁, w₁, hq', fun k' hk => .head h0 s0 (harr.1 k' (by rw [hx]; exact hk)), fun hr' hk => let ⟨k₁, h1, h2⟩ := harr.2 hr' (by rw [hx]; exact hk); ⟨k₁, h1, .head h0 s0 h2⟩⟩
  | goto l => exact absurd hq' (hq l a₁ w₁)
  | ret => exact ⟨_, a₁, w₁, hq', .of_steps (.one h0 s0) harr⟩
  | panic ch => exact ⟨_, a₁, w₁, hq', .of_steps (.one h0 s0) harr⟩
  | outgrown => exact ⟨_, a₁, w₁, hq', .of_steps (.one h0 s0) harr⟩
theorem wpIn_loopN {F : Fence} {n : Nat} {P : Program} {Q : Exit → Act → World → Prop} {c : Code} {a : Act} {w : World} (I : Nat → Act → World → Prop) (j : Nat) (h₀ : I j a w)
    (round : ∀ j a w, I j a w → c.wpIn F n P (Exit.then (fun a' w' => ∃ m, m < j ∧ I m a' w') Q) a w) : (Code.loop c).wpIn F n P Q a w := by
  intro b k cs hro hb hr
  have key : ∀ j a w, I j a w → ∃ e a' w', Q e a' w' ∧ ArrivesIn (Machine.fenced P F) P (lone (b.atR a (.code c :: .inLoop c :: k)) cs w) b k cs e a' w' := by
    intro j
    induction j using Nat.strongRecOn with
    | _ j ih =>
      intro a w hI
      obtain ⟨e, a₁, w₁, hq, harr⟩ := round j a w hI b (.inLoop c :: k) cs hro hb hr
      cases e with
      | normal =>
        obtain ⟨m, hlt, hI₁⟩ := hq
        obtain ⟨e₂, a₂, w₂, hq₂, harr₂⟩ := ih m hlt a₁ w₁ hI₁
        exact ⟨e₂, a₂, w₂, hq₂, .of_steps (StepsIn.trans harr (.one (fenced_calm hb hr rfl) stepR_inLoop)) harr₂⟩
      | exit id => exact ⟨_, a₁, w₁, hq, .pass (x := .inLoop c) rfl (fun _ _ => .inl (by simp)) harr⟩
      | goto l => exact ⟨_, a₁, w₁, hq, .pass (x := .inLoop c) rfl (fun _ _ => .inl (by simp)) harr⟩
      | ret => exact ⟨_, a₁, w₁, hq, .pass (x := .inLoop c) rfl (fun _ _ => .inl (by simp)) harr⟩
      | panic ch => exact ⟨_, a₁, w₁, hq, .pass (x := .inLoop c) rfl (fun _ _ => .inl (by simp)) harr⟩
      | outgrown => exact ⟨_, a₁, w₁, hq, .pass (x := .inLoop c) rfl (fun _ _ => .inl (by simp)) harr⟩
  obtain ⟨e, a', w', hq, harr⟩ := key _ a w h₀
  exact ⟨e, a', w', hq, .of_steps (.one (fenced_calm hb hr rfl) stepR_loop) harr⟩
end
def Cx.hide (C : Cx) (D : Nat → Prop) (K : Nat → Prop) (w : World) : Cx :=
  { C with
    hist := fun k D1 w1 => ∃ D2, C.hist k D2 w1 ∧ (∀ b, D b → D2 b) ∧ (∀ b, D2 b → D1 b ∧ (D b ∨ w.heap.size ≤ b)) ∧ ∀ b, K b → D1 b ∧ w1.heap[b]? = w.heap[b]?
    keep := fun k D1 w1 w2 ⟨D2, h1, h2, h3, h4⟩ hb hs ho ht hout => ⟨D2, C.keep k D2 w1 w2 h1 (fun b h => hb b (h3 b h).1) hs ho ht hout, h2, h3, fun b h => ⟨(h4 b h).1, (hb b (h4 b h).1).trans (h4 b h).2⟩⟩ }
def Sound (c : Code) : Prop := ∀ (W : Ab.W) (C : Cx) (ι₀ : Pl) (σ₀ : List AO) (vis₀ D₀ : Nat → Prop) (w₀ : World) (gp : List Nat), YOK C vis₀ w₀ W.yp W.sk W.pk → W.P = C.P → C.sz0 ≤ w₀.heap.size → ∀ (ac : AC), compC C.P C.nt W.pn gp c = some ac →
  ∀ (Q : Ex → St → Prop) (s : St) (a : Act) (w : World) (ι : Pl) (vis D : Nat → Prop), InvX C s a w ι vis D → UpN W.nb ι₀ σ₀ vis₀ w₀ ι s.σ vis w → UpD D₀ w₀ D → awp W ac Q s → c.wpIn (FR W.ro) 0 C.P (Lift C W.nb ι₀ σ₀ vis₀ w₀ D₀ Q) a w
end Go.Ab
namespace Go.Ab
section
variable {C : Cx} {s : St} {a : Act} {w w2 : World} {ι : Pl} {vis D K : Nat → Prop} {k : Nat} {σ : List AO}
theorem Mem.agree (M : Mem C k σ w ι vis D) (hb : ∀ b, (vis b ∨ D b ∨ ∃ i c, ι i = some (b, c)) → w2.heap[b]? = w.heap[b]?) (hs : w.heap.size ≤ w2.heap.size) (h1 : w2.os = w.os) (h2 : w2.tape = w.tape) (h3 : w2.output = w.output) :
    Mem C k σ w2 ι vis D ∧ (hp vis w).le (hp vis w2) := by
  have hle : (hp vis w).le (hp vis w2) := fun b o ⟨q1, q2⟩ => ⟨q1, by rw [hb b (.inl q1)]; exact q2⟩
  refine ⟨⟨M.glob.mono hle, M.inj, fun i b c hi => ?_, fun b h => Nat.lt_of_lt_of_le (M.visLt b h) hs, fun b h => Nat.lt_of_lt_of_le (M.DLt b h) hs, M.visD, fun i o hi => ?_, C.keep k D w w2 M.hist (fun b h => hb b (.inr (.inl h))) hs h1 h2 h3⟩, hle⟩
  · obtain ⟨q1, q2, q3, q4⟩ := M.own i b c hi
    exact ⟨q1, Nat.lt_of_lt_of_le q2 hs, q3, q4⟩
  · have ho := M.objs i o hi
    cases hp : ι i with
    | none => rw [hp] at ho; exact ho
    | some bc =>
      obtain ⟨b, c⟩ := bc
      rw [hp] at ho
      obtain ⟨ob, q1, q2⟩ := ho
      exact ⟨ob, by rw [hb b (.inr (.inr ⟨i, c, hp⟩))]; exact q1, q2.mono (Goes.refl _ _) hle⟩
theorem Mem.putOther (M : Mem C k σ w ι vis D) {l : Nat} (o : Go.Obj) (h1 : ¬ vis l) (h2 : ¬ D l) (h3 : ∀ i c, ι i ≠ some (l, c)) : Mem C k σ (w.putObj l o) ι vis D ∧ (hp vis w).le (hp vis (w.putObj l o)) :=
  M.agree (fun b hb => World.putObj_heap_other fun e => by
    subst e
    rcases hb with h | h | ⟨i, c, h⟩
    · exact h1 h
    · exact h2 h
    · exact h3 i c h) (by simp) rfl rfl rfl
theorem Mem.hideIn (M : Mem C k σ w ι vis D) (hK : ∀ b, K b → b < w.heap.size ∧ ¬ vis b ∧ ∀ i c, ι i ≠ some (b, c)) : Mem (C.hide D K w) k σ w ι vis (fun b => D b ∨ K b) := by
  refine ⟨M.glob, M.inj, fun i b c hi => ?_, M.visLt, fun b h => ?_, fun b hb h => ?_, M.objs, D, M.hist, fun _ h => h, fun b h => ⟨.inl h, .inl h⟩, fun b h => ⟨.inr h, rfl⟩⟩
  · obtain ⟨q1, q2, q3, q4⟩ := M.own i b c hi
    exact ⟨q1, q2, q3, fun h => by
      rcases h with h | h
      · exact q4 h
      · exact (hK b h).2.2 i c hi⟩
  · rcases h with h | h
    · exact M.DLt b h
    · exact (hK b h).1
  · rcases h with h | h
    · exact M.visD b hb h
    · exact (hK b h).2.1 hb
theorem Mem.hideOut {D' : Nat → Prop} (M : Mem (C.hide D K w) k σ w2 ι vis D') : ∃ D2, Mem C k σ w2 ι vis D2 ∧ UpD D w D2 ∧ (∀ b, D2 b → D' b) ∧ ∀ b, K b → D' b ∧ w2.heap[b]? = w.heap[b]? := by
  obtain ⟨D2, h1, h2, h3, h4⟩ := M.hist
  exact ⟨D2, ⟨M.glob, M.inj, fun i b c hi => let ⟨q1, q2, q3, q4⟩ := M.own i b c hi; ⟨q1, q2, q3, fun h => q4 (h3 b h).1⟩, M.visLt, fun b h => M.DLt b (h3 b h).1, fun b hb h => M.visD b hb (h3 b h).1, M.objs, h1⟩, ⟨h2, fun b h => (h3 b h).2⟩, fun b h => (h3 b h).1, h4⟩
end
def JumpM : Ex → Code → Prop
  | .ret, c => c = .ret
  | .exit id, c => c = .exit id
  | _, _ => False
theorem round_ok {asg bd : Code} (ha : Sound asg) (hb : Sound bd) {C : Cx} {P : Program} (hP : P = C.P) {nb p : Nat} {aa ab : AC} (hca : compC C.P C.nt [] [] asg = some aa) (hcb : compC C.P C.nt [] [] bd = some ab) (hpn : p < C.nt) {l : Nat} {rec_ : Loop} (hrec : rec_.state = .ready) (hpend : rec_.pending = none)
    {env0 : List (Nat × E)} {k : Nat} {σ : List AO} {v : Value} {J : List AO → Prop} {st : Bool} {S : Ex → List AO → Prop} {tmps : Array Value} {w : World} {ι : Pl} {vis D Dg : Nat → Prop} (hsz : C.sz0 ≤ w.heap.size) (M : Mem C (C.k0 + k) σ w ι vis D) (ht : tmps.size = C.nt)
    (henv : ∀ i, RepE C.yl ι σ (hp vis w) (lk env0 i) (tmps.getD i undef)) (hnb : nb ≤ σ.length) (hl : w.heap[l]? = some (.loop rec_)) (hDl : Dg l) (hl1 : ¬ vis l) (hl2 : ¬ D l) (hl3 : ∀ i c, ι i ≠ some (l, c)) (hlt : l < w.heap.size)
    (hown : ∀ i b c, ι i = some (b, c) → Dg b) (hD : ∀ b, D b → Dg b)
    (h : awp { P := P, nb := nb, ro := some l } aa (fun e s => match e with | .normal => awp { P := P, nb := nb, ro := some l } ab (fun e s' => match e with | .normal => s'.df = [] ∧ s'.k = k ∧ J s'.σ | .pan _ => False | e => st = true ∧ s'.df = [] ∧ s'.k = k ∧ S e s'.σ) s | _ => False) { env := (p, .t (T.ofV v)) :: env0, σ := σ, df := [], k := k }) (fn : FuncId) :
    RoundIn Fence.wide 0 C.P l fn (tmps.setIfInBounds p v) asg bd w fun e w' => ∃ σ' ι' vis' D' rc, ((e = .returned (.bool true) ∧ J σ' ∧ rc = rec_) ∨ (e = .returned (.bool false) ∧ st = true ∧ ∃ x c, JumpM x c ∧ S x σ' ∧ rc = { rec_ with state := .done, pending := some c })) ∧ Mem C (C.k0 + k) σ' w' ι' vis' D' ∧ UpN nb ι σ vis w ι' σ' vis' w' ∧ UpD D w D' ∧
      w'.heap[l]? = some (.loop rc) ∧ (∀ b, b < w.heap.size → ¬ Dg b → w'.heap[b]? = w.heap[b]?) ∧ ¬ vis' l ∧ ¬ D' l ∧ ∀ i c, ι' i ≠ some (l, c) := by
  -- what is kept in the first place: all that is none of the loop's own
  let K : Nat → Prop := fun b => b < w.heap.size ∧ ¬ vis b ∧ (∀ i c, ι i ≠ some (b, c)) ∧ ¬ D b
  have hKl : K l := ⟨hlt, hl1, hl3, hl2⟩
  have MH := M.hideIn (K := K) fun b h => ⟨h.1, h.2.1, h.2.2.1⟩
  have X0 : InvX (C.hide D K w) { env := (p, .t (T.ofV v)) :: env0, σ := σ, df := [], k := k } { tmps := tmps.setIfInBounds p v, defers := [] } w ι vis (fun b => D b ∨ K b) := by
    refine ⟨MH, (Array.size_setIfInBounds).trans ht, fun i => ?_, rfl⟩
    simp only [lk]
    split
    · rename_i e
      subst e
      unfold RepE
      have := T.ofV_rep (h := Ab.hp vis w) v
      simpa [ht, hpn] using this
    · rename_i e
      have h0 := henv i
      have h1 : (tmps.setIfInBounds p v).getD i undef = tmps.getD i undef := by simp [Array.getElem?_setIfInBounds_ne (fun h => e h.symm)]
      show RepE C.yl ι σ (Ab.hp vis w) (lk env0 i) ((tmps.setIfInBounds p v).getD i undef)
      rw [h1]
      exact h0
  have hyn : ∀ {C : Cx} {vis₀ : Nat → Prop} {w₀ : World}, YOK C vis₀ w₀ fun _ _ => False := fun _ _ _ _ _ _ h => h.elim
  have hs1 := ha { P := P, nb := nb, ro := some l } (C.hide D K w) ι σ vis (fun b => D b ∨ K b) w [] hyn hP hsz aa hca _ _ _ w ι vis _ X0 (UpN.refl hnb _ _ _) (UpD.refl _ _) h
  refine roundIn_of_wpIn trivial (wpIn_mono hs1 fun e a1 w1 ⟨s1, ι1, vis1, D1, ex, hx, hq, X1, U1, ud1⟩ => ?_)
  cases e <;> cases ex <;> first | exact hx.elim | exact hq.elim | skip
  -- the round begins
  obtain ⟨D2, M2, ud2, hsub2, hK2⟩ := X1.mem.hideOut
  have hl1' : w1.heap[l]? = some (.loop rec_) := by rw [(hK2 l hKl).2]; exact hl
  have hlt1 : l < w1.heap.size := (Array.getElem?_eq_some_iff.1 hl1').1
  have hv1 : ¬ vis1 l := fun h => X1.mem.visD l h (hK2 l hKl).1
  have ho1 : ∀ i c, ι1 i ≠ some (l, c) := fun i c h => (X1.mem.own i l c h).2.2.2 (hK2 l hKl).1
  have hd1 : ¬ D2 l := fun h => by
    rcases ud2.2 l h with h | h
    · exact hl2 h
    · omega
  refine ⟨_, run_beginRound hl1' hrec, ?_⟩
  obtain ⟨M3, hle3⟩ := M2.putOther (.loop { rec_ with state := .busy }) hv1 hd1 ho1
  let w2 := w1.putObj l (.loop { rec_ with state := .busy })
  let K3 : Nat → Prop := K
  have hK3 : ∀ b, K b → b < w2.heap.size ∧ ¬ vis1 b ∧ ∀ i c, ι1 i ≠ some (b, c) := fun b h => ⟨by have := h.1; have := U1.size; simp [w2]; omega, fun h' => X1.mem.visD b h' (hK2 b h).1, fun i c h' => (X1.mem.own i b c h').2.2.2 (hK2 b h).1⟩
  have MH2 := M3.hideIn (K := K) hK3
  have X2 : InvX (C.hide D2 K w2) s1 a1 w2 ι1 vis1 (fun b => D2 b ∨ K b) := ⟨MH2, X1.sz, fun i => (X1.env i).mono (Goes.refl _ _) hle3, RepDs.mono (Goes.refl _ _) hle3 _ _ X1.df⟩
  have hsz2 : C.sz0 ≤ w2.heap.size := by have := U1.size; simp [w2]; omega
  have hs2 := hb { P := P, nb := nb, ro := some l } (C.hide D2 K w2) ι1 s1.σ vis1 (fun b => D2 b ∨ K b) w2 [] hyn hP hsz2 ab hcb _ _ _ w2 ι1 vis1 _ X2 (UpN.refl U1.len' _ _ _) (UpD.refl _ _) hq
  refine wpIn_mono hs2 fun e a3 w3 ⟨s3, ι3, vis3, D3, ex, hx, hq, X3, U3, ud3⟩ => ?_
  obtain ⟨D4, M4, ud4, hsub4, hK4⟩ := X3.mem.hideOut
  have hl2' : w2.heap[l]? = some (.loop { rec_ with state := .busy }) := World.putObj_heap_same hlt1
  have hl3' : w3.heap[l]? = some (.loop { rec_ with state := .busy }) := by rw [(hK4 l hKl).2]; exact hl2'
  have hlt3 : l < w3.heap.size := (Array.getElem?_eq_some_iff.1 hl3').1
  have hv3 : ¬ vis3 l := fun h => X3.mem.visD l h (hK4 l hKl).1
  have ho3 : ∀ i c, ι3 i ≠ some (l, c) := fun i c h => (X3.mem.own i l c h).2.2.2 (hK4 l hKl).1
  have hs12 : w1.heap.size = w2.heap.size := by simp [w2]
  have hd3 : ¬ D4 l := fun h => by
    rcases ud4.2 l h with h | h
    · exact hd1 h
    · omega
  have ends : ∀ rc : Loop, s3.k = k → Mem C (C.k0 + k) s3.σ (w3.putObj l (.loop rc)) ι3 vis3 D4 ∧ UpN nb ι σ vis w ι3 s3.σ vis3 (w3.putObj l (.loop rc)) ∧ UpD D w D4 ∧
      (w3.putObj l (.loop rc)).heap[l]? = some (.loop rc) ∧ (∀ b, b < w.heap.size → ¬ Dg b → (w3.putObj l (.loop rc)).heap[b]? = w.heap[b]?) ∧ ¬ vis3 l ∧ ¬ D4 l ∧ ∀ i c, ι3 i ≠ some (l, c) := fun rc hk3 => by
    obtain ⟨M5, hle5⟩ := M4.putOther (.loop rc) hv3 hd3 ho3
    refine ⟨?_, ?_, ?_, World.putObj_heap_same hlt3, ?_, hv3, hd3, ho3⟩
    · rw [← hk3]; exact M5
    · have u2 : UpN nb ι1 s1.σ vis1 w1 ι1 s1.σ vis1 w2 := ⟨U1.len', U1.len', fun _ _ h => ⟨h, rfl⟩, fun _ n _ h => ⟨n, h, Nat.le_refl _, fun _ => rfl⟩, hle3, by omega, fun i _ c h => .inl ⟨i, c, h⟩, fun _ h => .inl h⟩
      have u4 : UpN nb ι3 s3.σ vis3 w3 ι3 s3.σ vis3 (w3.putObj l (.loop rc)) := ⟨U3.len', U3.len', fun _ _ h => ⟨h, rfl⟩, fun _ n _ h => ⟨n, h, Nat.le_refl _, fun _ => rfl⟩, hle5, by simp, fun i _ c h => .inl ⟨i, c, h⟩, fun _ h => .inl h⟩
      exact ((U1.trans u2).trans U3).trans u4
    · exact ud2.trans ud4 (by have := U1.size; omega)
    · intro b hb hng
      have hbl : b ≠ l := fun e => hng (e ▸ hDl)
      rw [World.putObj_heap_other hbl]
      by_cases hvb : vis b
      · obtain ⟨o, ho⟩ : ∃ o, w.heap[b]? = some o := ⟨_, Array.getElem?_eq_getElem hb⟩
        obtain ⟨q1, q2⟩ := U1.le b o ⟨hvb, ho⟩
        obtain ⟨q3, q4⟩ := hle3 b o ⟨q1, q2⟩
        rw [ho, (U3.le b o ⟨q3, q4⟩).2]
      · have hkb : K b := ⟨hb, hvb, fun i c h => hng (hown i b c h), fun h => hng (hD b h)⟩
        rw [(hK4 b hkb).2]
        show (w1.putObj l _).heap[b]? = _
        rw [World.putObj_heap_other hbl, (hK2 b hkb).2]
  have stop : ∀ c : Code, (Instr.endRound l (some c)).run C.P w3 = .ok (.bool false) (w3.putObj l (.loop { rec_ with state := .done, pending := some c })) := fun c => by
    rw [run_endRound (some c) hl3']
    rfl
  cases e <;> cases ex <;> first | exact hx.elim | exact hq.elim | skip
  · obtain ⟨hdf, hk3, hJ⟩ := hq
    have hrec4 : ({ state := .ready, pending := none, fn := rec_.fn, tmps := rec_.tmps, params := rec_.params, assign := rec_.assign, body := rec_.body, defers := rec_.defers } : Loop) = rec_ := by
      cases rec_; simp only at hrec hpend; subst hrec; subst hpend; rfl
    have hend : (Instr.endRound l none).run C.P w3 = .ok (.bool true) (w3.putObj l (.loop rec_)) := by
      rw [run_endRound none hl3']
      simp only [Option.isNone_none, if_true]
      rw [hrec4]
    exact ⟨_, _, hend, s3.σ, ι3, vis3, D4, rec_, .inl ⟨rfl, hJ, rfl⟩, ends rec_ hk3⟩
  · obtain ⟨hst, hdf, hk3, hS⟩ := hq
    obtain rfl : _ = _ := hx
    refine ⟨_, _, stop _, s3.σ, ι3, vis3, D4, _, .inr ⟨rfl, hst, _, _, ?_, hS, rfl⟩, ends _ hk3⟩
    exact rfl
  · obtain ⟨hst, hdf, hk3, hS⟩ := hq
    exact ⟨_, _, stop .ret, s3.σ, ι3, vis3, D4, _, .inr ⟨rfl, hst, .ret, .ret, rfl, hS, rfl⟩, ends _ hk3⟩
end Go.Ab
namespace Go.Ab
section
variable {C : Cx} {k : Nat} {σ : List AO} {w : World} {ι : Pl} {vis D : Nat → Prop}
theorem Mem.addVis (M : Mem C k σ w ι vis D) {b0 : Nat} (h1 : b0 < w.heap.size) (h2 : ∀ i c, ι i ≠ some (b0, c)) (h3 : ¬ D b0) : Mem C k σ w ι (fun b => vis b ∨ b = b0) D ∧ (hp vis w).le (hp (fun b => vis b ∨ b = b0) w) := by
  have hle : (hp vis w).le (hp (fun b => vis b ∨ b = b0) w) := fun b o ⟨q1, q2⟩ => ⟨.inl q1, q2⟩
  refine ⟨⟨M.glob.mono hle, M.inj, fun i b c hi => ?_, fun b h => ?_, M.DLt, fun b h => ?_, fun i o hi => ?_, M.hist⟩, hle⟩
  · obtain ⟨q1, q2, q3, q4⟩ := M.own i b c hi
    exact ⟨q1, q2, fun h => by
      rcases h with h | h
      · exact q3 h
      · exact h2 i c (h ▸ hi), q4⟩
  · rcases h with h | h
    · exact M.visLt b h
    · rw [h]; exact h1
  · rcases h with h | h
    · exact M.visD b h
    · rw [h]; exact h3
  · have ho := M.objs i o hi
    cases hp : ι i with
    | none => rw [hp] at ho; exact ho
    | some bc =>
      obtain ⟨b, c⟩ := bc
      rw [hp] at ho
      obtain ⟨ob, q1, q2⟩ := ho
      exact ⟨ob, q1, q2.mono (Goes.refl _ _) hle⟩
end
structure HR (C : Cx) (k1 n0 : Nat) (ι0 : Pl) (σ0 : List AO) (vis1 : Nat → Prop) (w1 : World) (D0 : Nat → Prop) (J : List AO → Prop) (l : Nat) (rec_ : Loop) (Dg : Nat → Prop) (wx : World) (σ : List AO) (ι : Pl) (vis D : Nat → Prop) : Prop where
  inv : J σ
  dl : Dg l
  loop : wx.heap[l]? = some (.loop rec_)
  out : ¬ vis l ∧ ¬ D l ∧ ∀ i c, ι i ≠ some (l, c)
  own : ∀ i b c, ι i = some (b, c) → Dg b
  sub : ∀ b, D b → Dg b
  vsub : ∀ b, vis b → vis1 b ∨ Dg b
  lt : ∀ b, Dg b → b < wx.heap.size
  ud : UpD D0 w1 D
  size : w1.heap.size ≤ wx.heap.size
  mem : ∀ w2 : World, (∀ b, Dg b → w2.heap[b]? = wx.heap[b]?) → (∀ b o, vis1 b → w1.heap[b]? = some o → w2.heap[b]? = some o) → wx.heap.size ≤ w2.heap.size → w2.os = wx.os → w2.tape = wx.tape → w2.output = wx.output →
    Mem C k1 σ w2 ι vis D ∧ UpN n0 ι0 σ0 vis1 w1 ι σ vis w2
theorem HR.keep {C : Cx} {k1 n0 : Nat} {ι0 : Pl} {σ0 : List AO} {vis1 : Nat → Prop} {w1 : World} {D0 : Nat → Prop} {J : List AO → Prop} {l : Nat} {rec_ : Loop} {Dg : Nat → Prop} {wx wy : World} {σ : List AO} {ι : Pl} {vis D : Nat → Prop} (h : HR C k1 n0 ι0 σ0 vis1 w1 D0 J l rec_ Dg wx σ ι vis D)
    (hb : ∀ b, Dg b → wy.heap[b]? = wx.heap[b]?) (hs : wx.heap.size ≤ wy.heap.size) (ho : wy.os = wx.os) (ht : wy.tape = wx.tape) (hout : wy.output = wx.output) : HR C k1 n0 ι0 σ0 vis1 w1 D0 J l rec_ Dg wy σ ι vis D :=
  ⟨h.inv, h.dl, by rw [hb l h.dl]; exact h.loop, h.out, h.own, h.sub, h.vsub, fun b hd => Nat.lt_of_lt_of_le (h.lt b hd) hs, h.ud, Nat.le_trans h.size hs,
    fun w2 q1 q2 q3 q4 q5 q6 => h.mem w2 (fun b hd => (q1 b hd).trans (hb b hd)) q2 (Nat.le_trans hs q3) (q4.trans ho) (q5.trans ht) (q6.trans hout)⟩
def genCx (C : Cx) (k1 n0 : Nat) (ι0 : Pl) (σ0 : List AO) (vis1 : Nat → Prop) (w1 : World) (D0 : Nat → Prop) (inv : Nat → List AO → Prop) (S : Ex → List AO → Prop) (n : Nat) (l : Nat) (rec_ : Loop) : Cx :=
  { C with
    yl := l
    k0 := 0
    hist := fun k Dg wx => (k ≤ n ∧ ∃ σ ι vis D, HR C k1 n0 ι0 σ0 vis1 w1 D0 (inv k) l rec_ Dg wx σ ι vis D) ∨
      (k = n + 1 ∧ ∃ x c, JumpM x c ∧ ∃ σ ι vis D, HR C k1 n0 ι0 σ0 vis1 w1 D0 (S x) l { rec_ with state := .done, pending := some c } Dg wx σ ι vis D)
    keep := fun k Dg wx wy h hb hs ho ht hout => h.imp (fun ⟨hk, σ, ι, vis, D, h⟩ => ⟨hk, σ, ι, vis, D, h.keep hb hs ho ht hout⟩) fun ⟨hk, x, c, hj, σ, ι, vis, D, h⟩ => ⟨hk, x, c, hj, σ, ι, vis, D, h.keep hb hs ho ht hout⟩ }
theorem gen_yok {asg bd : Code} (ha : Sound asg) (hb : Sound bd) {C : Cx} {P : Program} (hP : P = C.P) {p : Nat} {aa ab : AC} (hca : compC C.P C.nt [] [] asg = some aa) (hcb : compC C.P C.nt [] [] bd = some ab) (hpn : p < C.nt)
    {l k n0 : Nat} {ι0 : Pl} {σ0 : List AO} {vis1 : Nat → Prop} {w1 : World} {D0 : Nat → Prop} {inv : Nat → List AO → Prop} {st : Bool} {S : Ex → List AO → Prop} {L : List Value} {env0 : List (Nat × E)} {tmps : Array Value} {fn df : Nat}
    (hn0 : n0 = σ0.length) (hsz : C.sz0 ≤ w1.heap.size) (ht : tmps.size = C.nt) (henv : ∀ i, RepE C.yl ι0 σ0 (hp vis1 w1) (lk env0 i) (tmps.getD i undef)) (hvlt : ∀ b, vis1 b → b < w1.heap.size)
    (hround : ∀ j v σ, L[j]? = some v → inv j σ → awp { P := P, nb := n0, ro := some l } aa
        (fun e s1 => match e with | .normal => awp { P := P, nb := n0, ro := some l } ab (fun e s' => match e with | .normal => s'.df = [] ∧ s'.k = k ∧ ∃ kp', gcOK kp' s'.σ = true ∧ keepsBase n0 kp' = true ∧ inv (j + 1) (σgc kp' s'.σ 12) | .pan _ => False | e => st = true ∧ s'.df = [] ∧ s'.k = k ∧ ∃ kp', gcOK kp' s'.σ = true ∧ keepsBase n0 kp' = true ∧ S e (σgc kp' s'.σ 12)) s1 | _ => False)
        { env := (p, .t (T.ofV v)) :: env0, σ := σ, df := [], k := k }) :
    YOK (genCx C (C.k0 + k) n0 ι0 σ0 vis1 w1 D0 inv S L.length l { state := .ready, pending := none, fn := fn, tmps := tmps, params := #[p], assign := asg, body := bd, defers := df }) vis1 w1 (fun j v => L[j]? = some v) (stp st L) := by
  intro j Dg wy v hh hv1 hL
  have hjl := (List.getElem?_eq_some_iff.1 hL).1
  have hh' : ∃ σ ι vis D, HR C (C.k0 + k) n0 ι0 σ0 vis1 w1 D0 (inv j) l { state := .ready, pending := none, fn := fn, tmps := tmps, params := #[p], assign := asg, body := bd, defers := df } Dg wy σ ι vis D := by
    rcases hh with ⟨_, hh⟩ | ⟨hh, _⟩
    · have e : (genCx C (C.k0 + k) n0 ι0 σ0 vis1 w1 D0 inv S L.length l { state := .ready, pending := none, fn := fn, tmps := tmps, params := #[p], assign := asg, body := bd, defers := df }).k0 + j = j := Nat.zero_add j
      rw [e] at hh
      exact hh
    · have e : (genCx C (C.k0 + k) n0 ι0 σ0 vis1 w1 D0 inv S L.length l { state := .ready, pending := none, fn := fn, tmps := tmps, params := #[p], assign := asg, body := bd, defers := df }).k0 + j = j := Nat.zero_add j
      rw [e] at hh
      omega
  obtain ⟨σ, ι, vis, D, h⟩ := hh'
  obtain ⟨M, U⟩ := h.mem wy (fun _ _ => rfl) hv1 (Nat.le_refl _) rfl rfl rfl
  have g : Goes ι0 σ0 ι σ := (show UpN σ0.length ι0 σ0 vis1 w1 ι σ vis wy from hn0 ▸ U).up.goes
  refine ⟨fn, tmps.setIfInBounds p v, asg, bd, ?_, ?_⟩
  · show (Instr.yield l #[v]).run C.P wy = _
    rw [run_yield h.loop (by simp)]
    simp
    rfl
  · refine (round_ok (C := C) ha hb hP hca hcb hpn rfl rfl (Nat.le_trans hsz h.size) M ht (fun i => (henv i).mono g U.le) U.len' h.loop h.dl h.out.1 h.out.2.1 h.out.2.2 (h.lt l h.dl) h.own h.sub
      (J := fun σ => ∃ kp', gcOK kp' σ = true ∧ keepsBase n0 kp' = true ∧ inv (j + 1) (σgc kp' σ 12)) (S := fun e σ => ∃ kp', gcOK kp' σ = true ∧ keepsBase n0 kp' = true ∧ S e (σgc kp' σ 12)) (hround j v σ hL h.inv) fn).mono ?_
    intro e w' ⟨σ', ι', vis', D', rc, hend, M', U', ud', hl', hun, hv', hd', ho'⟩
    have key : ∀ (kp' : List Nat) (J : List AO → Prop), gcOK kp' σ' = true → keepsBase n0 kp' = true → J (σgc kp' σ' 12) → ∃ D'', UpD Dg wy D'' ∧ (∀ b, b < wy.heap.size → ¬ Dg b → w'.heap[b]? = wy.heap[b]?) ∧ wy.heap.size ≤ w'.heap.size ∧ (∀ b, D'' b → b < w'.heap.size) ∧
        ∃ σ ι vis D, HR C (C.k0 + k) n0 ι0 σ0 vis1 w1 D0 J l rc D'' w' σ ι vis D := fun kp' J hk1 hk2 hinv => by
      have hgc : ∀ i b c, gcPl kp' ι' i = some (b, c) → ∃ i', ι' i' = some (b, c) := fun i b c hi => by
        obtain ⟨id, _, h2⟩ := Option.bind_eq_some_iff.1 hi
        exact ⟨id, h2⟩
      have hvg : ∀ b, gcVis kp' ι' vis' b → vis' b ∨ ∃ i c, ι' i = some (b, c) := fun b hb => by
        rcases hb with h | ⟨i, c, h, _⟩
        · exact .inl h
        · exact .inr ⟨i, c, h⟩
      have hog : ∀ i b c, ι' i = some (b, c) → Dg b ∨ (wy.heap.size ≤ b ∧ b < w'.heap.size) := fun i b c hi => by
        rcases U'.own i b c hi with ⟨j, c', h2⟩ | h2
        · exact .inl (h.own j b c' h2)
        · exact .inr ⟨h2, (M'.own i b c hi).2.1⟩
      have hvv : ∀ b, vis' b → vis1 b ∨ Dg b ∨ (wy.heap.size ≤ b ∧ b < w'.heap.size) := fun b hb => by
        rcases U'.vis b hb with h2 | h2 | ⟨j, c, h2⟩
        · rcases h.vsub b h2 with h3 | h3
          · exact .inl h3
          · exact .inr (.inl h3)
        · exact .inr (.inr ⟨h2, M'.visLt b hb⟩)
        · exact .inr (.inl (h.own j b c h2))
      have hsub : ∀ b, D' b → Dg b ∨ (wy.heap.size ≤ b ∧ b < w'.heap.size) := fun b hb => by
        rcases ud'.2 b hb with h2 | h2
        · exact .inl (h.sub b h2)
        · exact .inr ⟨h2, M'.DLt b hb⟩
      have hvis1 : ∀ b o, vis1 b → w1.heap[b]? = some o → w'.heap[b]? = some o := fun b o h1 h2 => (U'.le b o (U.le b o ⟨h1, h2⟩)).2
      refine ⟨fun b => Dg b ∨ (wy.heap.size ≤ b ∧ b < w'.heap.size), ⟨fun b h => .inl h, fun b h => h.elim .inl fun h => .inr h.1⟩, hun, U'.size, fun b hb => ?_, σgc kp' σ' 12, gcPl kp' ι', gcVis kp' ι' vis', D', ?_⟩
      · rcases hb with h2 | h2
        · exact Nat.lt_of_lt_of_le (h.lt b h2) U'.size
        · exact h2.2
      · have MG := M'.gc 12 hk1
        have UG := (U.trans U').trans (UpN.gc (s := { env := [], σ := σ' }) (lv := []) (UpN.refl U'.len' ι' vis' w') hk2)
        refine ⟨?_, .inl h.dl, hl', ⟨?_, hd', ?_⟩, ?_, hsub, ?_, ?_, ?_, Nat.le_trans h.size U'.size, ?_⟩
        · exact hinv
        · intro h2
          rcases hvg l h2 with h3 | ⟨i, c, h3⟩
          · exact hv' h3
          · exact ho' i c h3
        · intro i c h2
          obtain ⟨i', h3⟩ := hgc i l c h2
          exact ho' i' c h3
        · intro i b c hi
          obtain ⟨i', h3⟩ := hgc i b c hi
          exact hog i' b c h3
        · intro b hb
          rcases hvg b hb with h3 | ⟨i, c, h3⟩
          · exact hvv b h3
          · exact .inr (hog i b c h3)
        · intro b hb
          rcases hb with h2 | h2
          · exact Nat.lt_of_lt_of_le (h.lt b h2) U'.size
          · exact h2.2
        · exact h.ud.trans ud' h.size
        · intro w2 q1 q2 q3 q4 q5 q6
          obtain ⟨MA, hle⟩ := MG.agree (w2 := w2) (fun b hb => by
            have keyb : vis1 b ∨ Dg b ∨ (wy.heap.size ≤ b ∧ b < w'.heap.size) := by
              rcases hb with h2 | h2 | ⟨i, c, h2⟩
              · rcases hvg b h2 with h3 | ⟨i, c, h3⟩
                · exact hvv b h3
                · exact .inr (hog i b c h3)
              · exact .inr (hsub b h2)
              · obtain ⟨i', h3⟩ := hgc i b c h2
                exact .inr (hog i' b c h3)
            rcases keyb with h2 | h2
            · obtain ⟨o, ho⟩ : ∃ o, w1.heap[b]? = some o := ⟨_, Array.getElem?_eq_getElem (hvlt b h2)⟩
              rw [q2 b o h2 ho, hvis1 b o h2 ho]
            · exact q1 b h2) q3 q4 q5 q6
          exact ⟨MA, UG.len, UG.len', UG.fix, UG.row, fun b o ⟨h2, h3⟩ => ⟨(UG.le b o ⟨h2, h3⟩).1, q2 b o h2 h3⟩, Nat.le_trans UG.size q3, UG.own, UG.vis⟩
    rcases hend with ⟨he, ⟨kp', hk1, hk2, hinv⟩, rfl⟩ | ⟨he, hst, x, c, hj, ⟨kp', hk1, hk2, hS⟩, rfl⟩
    · obtain ⟨D'', g1, g2, g3, g4, g5⟩ := key kp' (inv (j + 1)) hk1 hk2 hinv
      exact ⟨j + 1, .inl ⟨he, rfl⟩, D'', g1, g2, g3, g4, .inl ⟨by show 0 + (j + 1) ≤ _; omega, by show ∃ σ ι vis D, HR C (C.k0 + k) n0 ι0 σ0 vis1 w1 D0 (inv (0 + (j + 1))) l _ D'' w' σ ι vis D; rw [Nat.zero_add]; exact g5⟩⟩
    · obtain ⟨D'', g1, g2, g3, g4, g5⟩ := key kp' (S x) hk1 hk2 hS
      exact ⟨L.length + 1, .inr (.inl ⟨he, by rw [hst]; rfl⟩), D'', g1, g2, g3, g4, .inr ⟨by show 0 + (L.length + 1) = _; omega, x, c, hj, g5⟩⟩
end Go.Ab
namespace Go.Ab
theorem RepDs.target {sz0 yl : Nat} {ι : Pl} {σ : List AO} {h : Hp} : ∀ {ds : List Df} {l : List Deferred}, RepDs sz0 yl ι σ h ds l → ∀ e ∈ l, ∀ b, e.target = .collected b → ∃ o, h b o
  | [], _, r, e, he, _, _ => by cases r; cases he
  | d :: ds, _, r, e, he, b, hb => by
    obtain ⟨d', l', rfl, r1, _, r2⟩ := r
    rcases List.mem_cons.1 he with rfl | he
    · cases d with
      | call f args => obtain ⟨vs, cs, rfl, _⟩ := r1; cases hb
      | mark => obtain ⟨b', rfl, _, h1⟩ := r1; cases hb; exact ⟨_, h1⟩
    · exact RepDs.target r2 e he b hb
theorem range_ok {g : Operand} {ps : Array Tmp} {asg bd : Code} (ha : Sound asg) (hb : Sound bd) : Sound (.rangeFunc g ps asg bd) := by
  intro W C ι₀ σ₀ vis₀ D₀ w₀ gp hY hP0 hsz ac hc Q s a w ι vis D X U ud h
  simp only [compC] at hc
  split at hc
  rotate_left
  · cases hc
  rename_i g' p aa ab hg hps hca hcb
  split at hc
  rotate_left
  · cases hc
  rename_i hpn
  obtain rfl : ps = #[p] := by rw [← Array.toArray_toList (xs := ps), hps]
  have go : ∀ {s : St} {ι : Pl} {vis D : Nat → Prop}, InvX C s a w ι vis D → UpN W.nb ι₀ σ₀ vis₀ w₀ ι s.σ vis w → UpD D₀ w₀ D → awp W (.rangeF g' p aa ab) Q s → (Code.rangeFunc g #[p] asg bd).wpIn (FR W.ro) 0 C.P (Lift C W.nb ι₀ σ₀ vis₀ w₀ D₀ Q) a w := fun {s ι vis D} X U ud h => by
    obtain ⟨hro, f, fs, cs, L, inv, kp, lv, st, S, hgv, ⟨hpl, hgen⟩, hkp, hkb, hinv0, hround, hend, hstop⟩ := h
    have X0 := X.gc lv hkp
    have U0 : UpN W.nb ι₀ σ₀ vis₀ w₀ (gcPl kp ι) (s.gc kp lv).σ (gcVis kp ι vis) w := U.trans (UpN.gc (UpN.refl U.len' _ _ _) hkb)
    have hlen : (s.gc kp lv).σ.length = kp.length := by simp [St.gc, σgc]
    have rg := ev_ok X hg
    rw [hgv] at rg
    unfold RepE at rg
    have rg := rg.mono (gc_le kp ι vis w)
    unfold RepT at rg
    obtain ⟨us, vs, hav, r1, r2⟩ := rg
    have hF : FR W.ro = Fence.wide := by rw [hro]; rfl
    generalize gcPl kp ι = ι0 at *
    generalize gcVis kp ι vis = vis0 at *
    rw [hF]
    refine wpIn_rangeFunc fun fn _ => ?_
    let rec_ : Loop := { state := .ready, pending := none, fn := fn, tmps := a.tmps, params := #[p], assign := asg, body := bd, defers := w.heap.size }
    let wd := w.alloc (.deferred (some []))
    let w1 := wd.alloc (.loop rec_)
    have hsz1 : w1.heap.size = w.heap.size + 2 := by simp [w1, wd]
    have hwl : w1.heap[w.heap.size + 1]? = some (.loop rec_) := by
      have := heap_alloc_new wd (.loop rec_)
      simpa [w1, wd] using this
    have hwd : w1.heap[w.heap.size]? = some (.deferred (some [])) := by
      have h1 := heap_old wd (.loop rec_) w.heap.size (by simp [wd])
      have h2 := heap_alloc_new w (.deferred (some []))
      rw [h1]; exact h2
    have hwo : ∀ b, b < w.heap.size → w1.heap[b]? = w.heap[b]? := fun b hb => by
      rw [heap_old wd (.loop rec_) b (by simp [wd]; omega), heap_old w _ b hb]
    -- the memory where the loop is entered
    obtain ⟨M1, le1⟩ := X0.mem.agree (w2 := w1) (fun b hb => hwo b (by
      rcases hb with h | h | ⟨i, c, h⟩
      · exact X0.mem.visLt b h
      · exact X0.mem.DLt b h
      · exact (X0.mem.own i b c h).2.1)) (by omega) rfl rfl rfl
    obtain ⟨M2, le2⟩ := M1.addVis (b0 := w.heap.size) (by omega) (fun i c h => absurd (X0.mem.own i _ c h).2.1 (Nat.lt_irrefl _)) (fun h => absurd (X0.mem.DLt _ h) (Nat.lt_irrefl _))
    have le12 := Hp.le_trans le1 le2
    let vis1 : Nat → Prop := fun b => vis0 b ∨ b = w.heap.size
    have hvlt : ∀ b, vis1 b → b < w1.heap.size := M2.visLt
    have hYg := gen_yok (C := C) (P := W.P) (p := p) (l := w.heap.size + 1) (k := s.k) (n0 := kp.length) (ι0 := ι0) (σ0 := (s.gc kp lv).σ) (vis1 := vis1) (w1 := w1) (D0 := D) (inv := inv) (st := st) (S := S) (L := L) (env0 := (s.gc kp lv).env) (tmps := a.tmps) (fn := fn) (df := w.heap.size)
      ha hb hP0 hca hcb hpn hlen.symm (by have := U.size; omega) X.sz (fun i => (X0.env i).mono (Goes.refl _ _) le12) hvlt (fun j v σ hL hi => hround (w.heap.size + 1) j v σ hL hi)
    let Cg := genCx C (C.k0 + s.k) kp.length ι0 (s.gc kp lv).σ vis1 w1 D inv S L.length (w.heap.size + 1) rec_
    let Dg : Nat → Prop := fun b => (∃ i c, ι0 i = some (b, c)) ∨ D b ∨ b = w.heap.size + 1
    have hDg : ∀ b, Dg b → b < w1.heap.size := fun b h => by
      rcases h with ⟨i, c, h⟩ | h | h
      · have := (X0.mem.own i b c h).2.1; omega
      · have := X0.mem.DLt b h; omega
      · omega
    have Mg : Mem Cg 0 [] w1 (fun _ => none) vis1 Dg := by
      refine ⟨M2.glob, fun i j b c c' h => (by cases h), fun i b c h => (by cases h), hvlt, hDg, fun b hb h => ?_, fun i o hi => (by simp at hi), .inl ⟨Nat.zero_le _, (s.gc kp lv).σ, ι0, vis1, D, hinv0, .inr (.inr rfl), hwl, ⟨?_, ?_, ?_⟩, fun i b c h => .inl ⟨i, c, h⟩, fun b h => .inr (.inl h), fun b h => .inl h, hDg, UpD.refl _ _, Nat.le_refl _, ?_⟩⟩
      · rcases h with ⟨i, c, h⟩ | h | h
        · exact (M2.own i b c h).2.2.1 hb
        · exact M2.visD b hb h
        · rcases hb with hb | hb
          · have := X0.mem.visLt b hb; omega
          · omega
      · intro h
        rcases h with h | h
        · have := X0.mem.visLt _ h; omega
        · omega
      · intro h; have := X0.mem.DLt _ h; omega
      · intro i c h; have := (X0.mem.own i _ c h).2.1; omega
      · intro w2 q1 q2 q3 q4 q5 q6
        obtain ⟨MA, hle⟩ := M2.agree (w2 := w2) (fun b hb => by
          rcases hb with h | h | ⟨i, c, h⟩
          · obtain ⟨o, ho⟩ : ∃ o, w1.heap[b]? = some o := ⟨_, Array.getElem?_eq_getElem (hvlt b h)⟩
            rw [q2 b o h ho, ho]
          · exact q1 b (.inr (.inl h))
          · exact q1 b (.inl ⟨i, c, h⟩)) q3 q4 q5 q6
        exact ⟨MA, by omega, by omega, fun _ _ h => ⟨h, rfl⟩, fun _ n _ h => ⟨n, h, Nat.le_refl _, fun _ => rfl⟩, hle, q3, fun i _ c h => .inl ⟨i, c, h⟩, fun _ h => .inl h⟩
    have rargs : RepEs Cg.yl (fun _ => none) [] (hp vis1 w1) (fs.map .t ++ .yld :: cs.map .t) (us ++ .func (.yield (w.heap.size + 1)) #[] #[] :: vs) := by
      refine (RepEs.map_t (r1.mono le12)).append ?_
      unfold RepEs
      exact ⟨_, _, rfl, by unfold RepE; rfl, RepEs.map_t (r2.mono le12)⟩
    have hcall := hgen Cg w1 (fun _ => none) vis1 Dg (us ++ .func (.yield (w.heap.size + 1)) #[] #[] :: vs) hP0.symm hYg Mg rargs
    rw [hP0] at hcall hpl
    obtain ⟨fn', q1, q2, q3⟩ := hpl
    obtain ⟨b', hb'⟩ := Option.isSome_iff_exists.1 q2
    simp only [beq_eq_false_iff_ne] at q3
    refine ⟨w.heap.size + 1, _, w1, { target := .fn (.func f) vs.toArray, args := us.toArray ++ #[.func (.yield (w.heap.size + 1)) #[] #[]] }, w1, f, (us ++ .func (.yield (w.heap.size + 1)) #[] #[] :: vs).toArray, w1,
      run_enterLoop_outer fn a.tmps #[p] asg bd, ?_, fun _ _ => trivial, ?_, by simp [Fence.wide], ?_⟩
    · have hev : ∀ y, a.eval (.const y) = y := fun _ => rfl
      simp [resolve, hav, hev, Deferred.ofValue]
    · simp [invoke, callFunc, q1, hb', q3]
    · refine hcall.mono fun e w3 ⟨m, σ3, ι3, vis3, D3, hm0, M3, u3, ud3⟩ => ?_
      obtain ⟨⟨v, he⟩, hm⟩ : (∃ v, e = .returned v) ∧ (m = L.length ∨ stp st L = some m) := hm0.elim id fun ⟨x, hx, _⟩ => (by cases hx)
      subst he
      -- behind the loop, whatever its record is
      have behind : ∀ (J : List AO → Prop) (rc : Loop) (x : Ex) (ex : Exit), rc.state ≠ .busy → (∀ {h : Hp}, ExM h ex x) → (∀ σ, J σ → Q x { s.gc kp lv with σ := σ, df := .mark :: (s.gc kp lv).df }) →
          (∃ σ ι vis D', HR C (C.k0 + s.k) kp.length ι0 (s.gc kp lv).σ vis1 w1 D J (w.heap.size + 1) rc D3 w3 σ ι vis D') →
          ∃ w4, (Instr.endLoop (w.heap.size + 1)).run C.P w3 = .ok rc.pending w4 ∧ Lift C W.nb ι₀ σ₀ vis₀ w₀ D₀ Q ex { a with defers := [{ target := .collected w.heap.size, args := #[] }] ++ a.defers } w4 := by
        rintro J rc x ex hbusy hxm hJQ ⟨σ4, ι4, vis4, D4, H⟩
        obtain ⟨M4, U4⟩ := H.mem w3 (fun _ _ => rfl) (fun b o h1 h2 => (u3.le b o ⟨h1, h2⟩).2) (Nat.le_refl _) rfl rfl rfl
        obtain ⟨M5, le5⟩ := M4.putOther (.loop { rc with state := .exhausted }) H.out.1 H.out.2.1 H.out.2.2
        refine ⟨_, run_endLoop H.loop hbusy, ?_⟩
        have g4 : Goes ι0 (s.gc kp lv).σ ι4 σ4 := (show UpN (s.gc kp lv).σ.length ι0 (s.gc kp lv).σ vis1 w1 ι4 σ4 vis4 w3 from hlen ▸ U4).up.goes
        have lef := Hp.le_trans (Hp.le_trans le12 U4.le) le5
        have uA : UpN W.nb ι0 (s.gc kp lv).σ vis0 w ι4 σ4 vis4 (w3.putObj (w.heap.size + 1) (.loop { rc with state := .exhausted })) := by
          have hnbk : W.nb ≤ kp.length := by rw [← hlen]; exact U0.len'
          refine ⟨U0.len', Nat.le_trans hnbk U4.len', fun id hi hl => U4.fix id (by omega) hl, fun id n hi hl => U4.row id n (by omega) hl, lef, ?_, fun i b c h => ?_, fun b h => ?_⟩
          · have := U4.size; simp; omega
          · rcases U4.own i b c h with h | h
            · exact .inl h
            · exact .inr (by omega)
          · rcases U4.vis b h with h | h | h
            · rcases h with h | h
              · exact .inl h
              · exact .inr (.inl (by omega))
            · exact .inr (.inl (by omega))
            · exact .inr (.inr h)
        refine Lift.of (x := x) hxm (hJQ σ4 H.inv) ⟨M5, X.sz, fun i => (X0.env i).mono g4 lef, ?_⟩ (U0.trans uA) ?_
        · refine ⟨_, _, rfl, ⟨w.heap.size, rfl, by have := U.size; omega, ?_⟩, fun b hb e he => ?_, RepDs.mono g4 lef _ _ X0.df⟩
          · have h1 := U4.le w.heap.size _ ⟨.inr rfl, hwd⟩
            exact le5 _ _ h1
          · cases hb
            intro heq
            obtain ⟨o, ho⟩ := RepDs.target X0.df e he _ heq
            exact absurd (X0.mem.visLt _ ho.1) (Nat.lt_irrefl _)
        · exact (ud.trans (UpD.refl D w) U.size).trans ⟨H.ud.1, fun b h => by
            rcases H.ud.2 b h with h | h
            · exact .inl h
            · exact .inr (by omega)⟩ U.size
      have hh3 : (m ≤ L.length ∧ ∃ σ ι vis D', HR C (C.k0 + s.k) kp.length ι0 (s.gc kp lv).σ vis1 w1 D (inv m) (w.heap.size + 1) rec_ D3 w3 σ ι vis D') ∨
          (m = L.length + 1 ∧ ∃ x c, JumpM x c ∧ ∃ σ ι vis D', HR C (C.k0 + s.k) kp.length ι0 (s.gc kp lv).σ vis1 w1 D (S x) (w.heap.size + 1) { rec_ with state := .done, pending := some c } D3 w3 σ ι vis D') := M3.hist
      rcases hh3 with ⟨hml, hh3⟩ | ⟨hml, x, c, hj, hh3⟩
      · have hmn : m = L.length := by
          rcases hm with h | h
          · exact h
          · unfold stp at h
            split at h
            · cases h; omega
            · cases h
        subst hmn
        obtain ⟨w4, q1, q2⟩ := behind (inv L.length) rec_ .normal .normal (by simp [rec_]) trivial hend hh3
        exact ⟨none, w4, q1, q2⟩
      · cases x with
        | ret =>
          obtain rfl := hj
          obtain ⟨w4, q1, q2⟩ := behind (S .ret) _ .ret .ret (by simp) trivial (hstop .ret) hh3
          exact ⟨some .ret, w4, q1, wpIn_ret q2⟩
        | exit id =>
          obtain rfl := hj
          obtain ⟨w4, q1, q2⟩ := behind (S (.exit id)) _ (.exit id) (.exit id) (by simp) rfl (hstop (.exit id)) hh3
          exact ⟨some (.exit id), w4, q1, wpIn_exit q2⟩
        | normal => exact hj.elim
        | pan _ => exact hj.elim
  have hac := Option.some.inj hc
  split at hac
  · subst hac
    obtain ⟨s', h1, h2⟩ := h
    obtain ⟨ι', vis', X', U'⟩ := h1 C a w ι vis D U.len' X
    exact go X' (U.trans U') ud h2
  · subst hac; exact go X U ud h
end Go.Ab
namespace Go.Ab
theorem awp_sound : ∀ c : Code, Sound c
  | .skip => by
    intro W C ι₀ σ₀ vis₀ D₀ w₀ gp hY hP0 hsz ac hc Q s a w ι vis D X U ud h
    simp only [compC] at hc; cases hc
    exact wpIn_skip (Lift.of (x := .normal) trivial h X U ud)
  | .label _ => by
    intro W C ι₀ σ₀ vis₀ D₀ w₀ gp hY hP0 hsz ac hc Q s a w ι vis D X U ud h
    simp only [compC] at hc; cases hc
    exact wpIn_label (Lift.of (x := .normal) trivial h X U ud)
  | .region id ops false => by
    intro W C ι₀ σ₀ vis₀ D₀ w₀ gp hY hP0 hsz ac hc Q s a w ι vis D X U ud h
    simp only [compC] at hc
    obtain ⟨is, his, hac⟩ := Option.map_eq_some_iff.1 hc
    have go : ∀ {s : St} {ι : Pl} {vis D : Nat → Prop}, InvX C s a w ι vis D → UpN W.nb ι₀ σ₀ vis₀ w₀ ι s.σ vis w → UpD D₀ w₀ D → awp W (.reg is) Q s → (Code.region id ops false).wpIn (FR W.ro) 0 C.P (Lift C W.nb ι₀ σ₀ vis₀ w₀ D₀ Q) a w := fun {s ι vis D} X U ud h => by
      have := is_ok (ops := ops) (Q := Q) hY hP0 ops.toList 0 (by simp) his X U ud h
      refine wpIn_region ?_
      rw [List.range_eq_range']
      simpa using this
    split at hac
    · subst hac
      obtain ⟨s', h1, h2⟩ := h
      obtain ⟨ι', vis', X', U'⟩ := h1 C a w ι vis D U.len' X
      exact go X' (U.trans U') ud h2
    · subst hac; exact go X U ud h
  | .region id ops true => by
    intro W C ι₀ σ₀ vis₀ D₀ w₀ gp hY hP0 hsz ac hc Q s a w ι vis D X U ud h
    simp only [compC] at hc
    split at hc
    rotate_left
    · cases hc
    rename_i hm
    split at hc
    rotate_left
    · cases hc
    rename_i is his
    split at hc
    · split at hc
      rotate_left
      · cases hc
      rename_i hall
      cases hc
      obtain ⟨I, h1, h2, h3⟩ := h
      refine wpIn_region_any hm ?_
      have st : Step w { w with drawn := w.drawn + 1 } none := ⟨Nat.le_refl _, rfl, rfl, rfl, fun _ _ _ => rfl⟩
      obtain ⟨M', hle⟩ := X.mem.step st
      have X' : InvX C s a { w with drawn := w.drawn + 1 } ι vis D := X.go M' (Goes.refl _ _) hle
      have u : Up ι s.σ vis w ι s.σ vis { w with drawn := w.drawn + 1 } := Up.of (Goes.refl _ _) hle (Nat.le_refl _) fun i b c h => .inl ⟨i, c, h⟩
      have hlen : is.length = ops.size := by rw [compIs_len his, Array.length_toList]
      have hpre : ∀ j, j < ops.size → ((List.range ops.size).map (preds ops)).getD j [] = preds ops j := fun j hj => by
        rw [List.getD_eq_getElem?_getD, List.getElem?_map, List.getElem?_range hj]; rfl
      refine any_okI hY hP0 his (I := I) (fun j hj d hd => ?_) hlen (fun L s j i a b c d => ?_) h3 ops.size (by simp) (Nat.le_trans (List.length_filter_le _ _) (by simp)) X' (U.trans (UpN.of U.len' u)) ud ?_
      · have := List.all_eq_true.1 hall j (List.mem_range.2 hj)
        have := List.all_eq_true.1 this d hd
        exact of_decide_eq_true this
      · have hj : j < ops.size := by have := (List.getElem?_eq_some_iff.1 b).1; omega
        exact h2 L s j i a b c (by rw [hpre j hj]; exact d)
      · have e : (fun j => (Array.replicate ops.size false).getD j false) = fun _ => false := by
          funext j
          simp only [Array.getD_eq_getD_getElem?, Array.getElem?_replicate]
          split <;> rfl
        rw [e]; exact h1
    obtain ⟨t, ht, hac⟩ := Option.map_eq_some_iff.1 hc
    have go : ∀ {s : St} {ι : Pl} {vis D : Nat → Prop}, InvX C s a w ι vis D → UpN W.nb ι₀ σ₀ vis₀ w₀ ι s.σ vis w → UpD D₀ w₀ D → awp W (.draw t) Q s → (Code.region id ops true).wpIn (FR W.ro) 0 C.P (Lift C W.nb ι₀ σ₀ vis₀ w₀ D₀ Q) a w := fun {s ι vis D} X U ud h => by
      refine wpIn_region_any hm ?_
      have st : Step w { w with drawn := w.drawn + 1 } none := ⟨Nat.le_refl _, rfl, rfl, rfl, fun _ _ _ => rfl⟩
      obtain ⟨M', hle⟩ := X.mem.step st
      have X' : InvX C s a { w with drawn := w.drawn + 1 } ι vis D := X.go M' (Goes.refl _ _) hle
      have u : Up ι s.σ vis w ι s.σ vis { w with drawn := w.drawn + 1 } := Up.of (Goes.refl _ _) hle (Nat.le_refl _) fun i b c h => .inl ⟨i, c, h⟩
      refine any_ok hY hP0 his ops.size X' (U.trans (UpN.of U.len' u)) ud (gen_ok ?_ ops.size [] _ t s ht (awpD_mono (fun s h => ⟨s, Eqv.refl s, h⟩) (fun _ _ h => h) t h))
      exact fun s s' he ⟨s'', he', hq⟩ => ⟨s'', he.symm.trans he', hq⟩
    split at hac
    · subst hac
      obtain ⟨s', h1, h2⟩ := h
      obtain ⟨ι', vis', X', U'⟩ := h1 C a w ι vis D U.len' X
      exact go X' (U.trans U') ud h2
    · subst hac; exact go X U ud h
  | .seq x y => by
    intro W C ι₀ σ₀ vis₀ D₀ w₀ gp hY hP0 hsz ac hc Q s a w ι vis D X U ud h
    simp only [compC] at hc
    split at hc
    · rename_i ax ay h1 h2
      cases hc
      refine wpIn_seq (wpIn_mono (awp_sound x W C ι₀ σ₀ vis₀ D₀ w₀ gp hY hP0 hsz _ h1 _ _ _ _ _ _ _ X U ud h) fun e a' w' ⟨s', ι', vis', D', ex, hx, hq, X', U', ud'⟩ => ?_)
      cases e <;> cases ex <;> first | exact hx.elim | skip
      · exact awp_sound y W C ι₀ σ₀ vis₀ D₀ w₀ gp hY hP0 hsz _ h2 _ _ _ _ _ _ _ X' U' ud' hq
      · exact ⟨s', ι', vis', D', _, hx, hq, X', U', ud'⟩
      · exact ⟨s', ι', vis', D', _, hx, hq, X', U', ud'⟩
      · exact ⟨s', ι', vis', D', _, hx, hq, X', U', ud'⟩
    · cases hc
  | .cond x c d => by
    intro W C ι₀ σ₀ vis₀ D₀ w₀ gp hY hP0 hsz ac hc Q s a w ι vis D X U ud h
    simp only [compC] at hc
    split at hc
    · rename_i x' ax ay hx h1 h2
      cases hc
      simp only [awp] at h
      split at h
      · rename_i t ht
        have r := ev_ok X hx
        rw [ht] at r
        unfold RepE RepT at r
        refine wpIn_cond r ?_
        cases t
        · exact awp_sound d W C ι₀ σ₀ vis₀ D₀ w₀ gp hY hP0 hsz _ h2 _ _ _ _ _ _ _ X U ud (h.2 rfl)
        · exact awp_sound c W C ι₀ σ₀ vis₀ D₀ w₀ gp hY hP0 hsz _ h1 _ _ _ _ _ _ _ X U ud (h.1 rfl)
      · exact h.elim
    · cases hc
  | .block id c => by
    intro W C ι₀ σ₀ vis₀ D₀ w₀ gp hY hP0 hsz ac hc Q s a w ι vis D X U ud h
    simp only [compC] at hc
    obtain ⟨ax, h1, rfl⟩ := Option.map_eq_some_iff.1 hc
    refine wpIn_block (wpIn_mono (awp_sound c W C ι₀ σ₀ vis₀ D₀ w₀ gp hY hP0 hsz _ h1 _ _ _ _ _ _ _ X U ud h) fun e a' w' ⟨s', ι', vis', D', ex, hx, hq, X', U', ud'⟩ => ?_)
    cases e <;> cases ex <;> first | exact hx.elim | skip
    · exact ⟨s', ι', vis', D', _, hx, hq, X', U', ud'⟩
    · have hx' : _ = _ := hx
      subst hx'
      simp only [Exit.inBlock]
      split
      · rename_i e; simp only [e, if_true] at hq; exact ⟨s', ι', vis', D', .normal, trivial, hq, X', U', ud'⟩
      · rename_i e; simp only [e, if_false] at hq; exact ⟨s', ι', vis', D', .exit _, rfl, hq, X', U', ud'⟩
    · exact ⟨s', ι', vis', D', _, hx, hq, X', U', ud'⟩
    · exact ⟨s', ι', vis', D', _, hx, hq, X', U', ud'⟩
  | .loop c => by
    intro W C ι₀ σ₀ vis₀ D₀ w₀ gp hY hP0 hsz ac hc Q s a w ι vis D X U ud h
    simp only [compC] at hc
    obtain ⟨ax, h1, rfl⟩ := Option.map_eq_some_iff.1 hc
    obtain ⟨inv, ⟨n, s', hs, hi⟩, hround⟩ := h
    have strike : ∀ {s s' : St} {a : Act} {w : World} {ι : Pl} {vis D : Nat → Prop} {n : Nat}, InvX C s a w ι vis D → UpN W.nb ι₀ σ₀ vis₀ w₀ ι s.σ vis w → UpD D₀ w₀ D → Sub W.nb s s' → inv n s' →
        ∃ s' ι' vis' D', inv n s' ∧ InvX C s' a w ι' vis' D' ∧ UpN W.nb ι₀ σ₀ vis₀ w₀ ι' s'.σ vis' w ∧ UpD D₀ w₀ D' := fun {s s' a w ι vis D n} X U ud hs hi => by
      obtain ⟨ι', vis', X', U'⟩ := hs C a w ι vis D U.len' X
      exact ⟨s', _, _, D, hi, X', U.trans U', ud⟩
    refine wpIn_loopN (fun n a w => ∃ s' ι' vis' D', inv n s' ∧ InvX C s' a w ι' vis' D' ∧ UpN W.nb ι₀ σ₀ vis₀ w₀ ι' s'.σ vis' w ∧ UpD D₀ w₀ D') n (strike X U ud hs hi) fun n a w ⟨s', ι', vis', D', hi', X', U', ud'⟩ => ?_
    refine wpIn_mono (awp_sound c W C ι₀ σ₀ vis₀ D₀ w₀ gp hY hP0 hsz _ h1 _ _ _ _ _ _ _ X' U' ud' (hround _ s' hi')) fun e a' w' ⟨s'', ι'', vis'', D'', ex, hx, hq, X'', U'', ud''⟩ => ?_
    cases e <;> cases ex <;> first | exact hx.elim | skip
    · obtain ⟨m, s3, hm, hs, hi⟩ := hq
      exact ⟨m, hm, strike X'' U'' ud'' hs hi⟩
    · exact ⟨s'', ι'', vis'', D'', _, hx, hq, X'', U'', ud''⟩
    · exact ⟨s'', ι'', vis'', D'', _, hx, hq, X'', U'', ud''⟩
    · exact ⟨s'', ι'', vis'', D'', _, hx, hq, X'', U'', ud''⟩
  | .exit id => by
    intro W C ι₀ σ₀ vis₀ D₀ w₀ gp hY hP0 hsz ac hc Q s a w ι vis D X U ud h
    simp only [compC] at hc; cases hc
    exact wpIn_exit (Lift.of (x := .exit id) rfl h X U ud)
  | .scope c => by
    intro W C ι₀ σ₀ vis₀ D₀ w₀ gp hY hP0 hsz ac hc Q s a w ι vis D X U ud h
    simp only [compC] at hc
    obtain ⟨ax, h1, rfl⟩ := Option.map_eq_some_iff.1 hc
    exact wpIn_scope (fun l a w ⟨_, _, _, _, ex, hx, _⟩ => by cases ex <;> exact hx.elim) (awp_sound c W C ι₀ σ₀ vis₀ D₀ w₀ gp hY hP0 hsz _ h1 _ _ _ _ _ _ _ X U ud h)
  | .ret => by
    intro W C ι₀ σ₀ vis₀ D₀ w₀ gp hY hP0 hsz ac hc Q s a w ι vis D X U ud h
    simp only [compC] at hc; cases hc
    exact wpIn_ret (Lift.of (x := .ret) trivial h X U ud)
  | .rangeFunc g ps asg bd => range_ok (awp_sound asg) (awp_sound bd)
  | .goto _ | .refuse _ => by
    intro W C ι₀ σ₀ vis₀ D₀ w₀ gp hY hP0 hsz ac hc
    simp [compC] at hc
end Go.Ab
