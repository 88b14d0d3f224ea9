/- Proved here: laws that the statements need (AbM). No conditions but those that each law states. -/
import Derived.Test.YtbhbbjngndmnmaaGreatDoorFG
import Derived.OrdersIn
set_option linter.unusedSimpArgs false
set_option linter.unusedVariables false
namespace Go.Ab
def AOp.opds : AOp → List Opd
  | .mov x | .box x | .box0 _ x | .faddr0 _ x | .load0 x | .load _ _ x | .nilck x | .nilckM _ _ x | .un _ x | .conv _ x | .faddr _ x | .field _ _ _ x | .mkif _ x | .ext x _ | .len x | .pan x | .nilcmp _ x | .tass _ _ x => [x]
  | .pick c a b => [c, a, b]
  | .alloc _ => []
  | .build _ ps => ps.map (·.2.2)
  | .bslice _ _ _ ps => ps.map (·.2)
  | .store _ p x | .bin _ p x | .eqb _ p x | .iaddr _ p x | .iaddrA _ _ p x | .app _ _ p x | .mks _ _ _ p x => [p, x]
  | .mkfn _ fs cs => fs ++ cs
  | .mxmn _ x xs => x :: xs
  | .call f xs => f :: xs
  | .defer _ xs => xs
  | .deferF f xs => f :: xs
  | .mkmap _ => []
  | .look _ _ _ m k | .ment _ _ m k | .mdel _ m k => [m, k]
  | .mput _ m k v | .est m k v => [m, k, v]
  | .mlen m | .rng m | .nxt m | .ent m => [m]
  | .inv _ x xs => x :: xs
  | .eqs _ _ x y | .cpy _ x y => [x, y]
  | .slc _ _ x lo hi => x :: (lo.toList ++ hi.toList)
  | .sidx _ x => [x]
  | .clr _ _ x => [x]
  | .aidx _ _ _ x i => [x, i]
def AOp.eager : AOp → Bool
  | .mov _ | .pick .. | .build .. | .load .. | .nilck _ | .nilckM .. | .bin .. | .eqb .. | .un .. | .conv .. | .faddr .. | .faddr0 .. | .load0 .. | .field .. | .iaddr .. | .iaddrA .. | .mkif .. | .mkfn .. | .ext .. | .len _ | .mxmn .. | .nilcmp .. | .tass .. | .look .. | .mlen _ | .ent _ | .eqs .. | .slc .. | .sidx .. | .aidx .. => true
  | _ => false
def AOp.pure : AOp → Bool
  | .mov _ | .pick .. | .build .. | .bin .. | .eqb .. | .un .. | .conv .. | .field .. | .mkif .. | .mkfn .. | .ext .. | .mxmn .. | .nilcmp .. | .tass .. | .sidx .. | .aidx .. => true
  | _ => false
def opdT : Opd → Option Nat
  | .tmp t => some t
  | _ => none
def AI.looks (i : AI) : List Nat := i.op.opds.filterMap opdT ++ (match i.g with | some (t, _) => [t] | none => [])
def apartI (x y : AI) : Bool := (match x.dst with | some d => !y.looks.contains d && y.dst != some d | none => true) && (match y.dst with | some d => !x.looks.contains d | none => true)
def preds (ops : Array Oper) (j : Nat) : List Nat := match ops[j]? with
  | some o => (o.after.toList.filter (Region.binds .any ·)).map (·.on)
  | none => []
def freeOK (ops : Array Oper) (is : List AI) (listed : Array Bool) (i : Nat) (x : AI) : Bool :=
  (List.range is.length).all fun j => j == i || listed.getD j true || (preds ops j).contains i || (match is[j]? with | some y => apartI x y | none => true)
def takeOK (pn : List Nat) (ops : Array Oper) (is : List AI) (O : List Nat) (listed : Array Bool) (i : Nat) : Bool := match is[i]? with
  | some x => x.op.eager && (match x.dst with
    | some d => !x.looks.contains d && !pn.contains d && O.all fun j => match is[j]? with | some y => !y.looks.contains d && y.dst != some d | none => true
    | none => false) && freeOK ops is listed i x
  | none => false
def chks (ops : Array Oper) (is : List AI) (O : List Nat) (j : Nat) : List AI := O.filterMap fun i => if (preds ops j).contains i then none else is[i]?
def gen (pn : List Nat) (ops : Array Oper) (is : List AI) : Nat → List Nat → Array Bool → Option DT
  | 0, _, listed => if Region.ready .any ops listed = [] then some .done else none
  | n + 1, O, listed =>
    if Region.ready .any ops listed = [] then some .done else
    match (Region.ready .any ops listed).find? (takeOK pn ops is O listed) with
    | some i => match is[i]? with
      | some x => (gen pn ops is n (if x.op.pure then O else i :: O) (listed.setIfInBounds i true)).map (.step x)
      | none => none
    | none => (Region.ready .any ops listed).foldr (fun j r => match is[j]?, gen pn ops is n O (listed.setIfInBounds j true), r with
      | some y, some t, some r => some (.ev y (chks ops is O j) t r)
      | _, _, _ => none) (some .stop)
def compG (ops : Array Oper) (g : Option (Nat × Bool)) : Option (Option (Nat × Bool)) := match g with
  | none => some none
  | some (j, b) => match (ops[j]?).bind (·.dst) with
    | some t => some (some (t, b))
    | none => none
def dstOK (nt : Nat) : Option Nat → Bool
  | none => true
  | some d => decide (d < nt)
def compI (P : Program) (nt : Nat) (ops : Array Oper) (o : Oper) : Option AI := match compOpX P ops o, compG ops o.guard with
  | some i, some g => if dstOK nt o.dst then some ⟨o.dst, g, i⟩ else none
  | _, _ => none
def compIs (P : Program) (nt : Nat) (ops : Array Oper) : List Oper → Option (List AI)
  | [] => some []
  | o :: os => match compI P nt ops o, compIs P nt ops os with
    | some i, some is => some (i :: is)
    | _, _ => none
def compC (P : Program) (nt : Nat) (pn gp : List Nat) : Code → Option AC
  | .skip => some .skip
  | .label _ => some .skip
  | .region id ops false => (compIs P nt ops ops.toList).map fun is => if gp.contains id then .seq .gcp (.reg is) else .reg is
  | .region id ops true => if P.follows .mixedOrders then (match compIs P nt ops ops.toList with
    | some is => if gp.contains (id + 2000000) then (if (List.range ops.size).all fun j => (preds ops j).all fun d => decide (d < j) then some (.drawI is ((List.range ops.size).map (preds ops))) else none) else
      (gen pn ops is ops.size [] (Array.replicate ops.size false)).map fun t => if gp.contains id then .seq .gcp (.draw t) else .draw t
    | none => none) else none
  | .seq a b => match compC P nt pn gp a, compC P nt pn gp b with
    | some a, some b => some (.seq a b)
    | _, _ => none
  | .cond x a b => match cOpd P x, compC P nt pn gp a, compC P nt pn gp b with
    | some x, some a, some b => some (.cond x a b)
    | _, _, _ => none
  | .block id c => (compC P nt pn gp c).map (.block id)
  | .loop c => (compC P nt pn gp c).map .loop
  | .exit id => some (.exit id)
  | .scope c => (compC P nt pn gp c).map .scope
  | .ret => some .ret
  | .rangeFunc g ps a b => match cOpd P g, ps.toList, compC P nt [] [] a, compC P nt [] [] b with
    | some g, [p], some a, some b => if p < nt then some (if gp.contains 1000000 then .seq .gcp (.rangeF g p a b) else .rangeF g p a b) else none
    | _, _, _, _ => none
  | _ => none
theorem fillE_congr {env env' : List (Nat × E)} : ∀ (ps : List (Nat × Nat × Opd)) (cs : List E), (∀ x ∈ ps.map (·.2.2), x.ev env = x.ev env') → fillE env ps cs = fillE env' ps cs
  | [], _, _ => rfl
  | (off, k, x) :: ps, cs, h => by
    have h0 := h x (by simp)
    simp only [fillE, h0]
    split
    · split
      · exact fillE_congr ps _ fun y hy => h y (by simp at hy ⊢; exact .inr hy)
      · rfl
    · rfl
theorem fillR_congr {env env' : List (Nat × E)} {es : Nat} : ∀ (ps : List (Nat × Opd)) (cs : List E), (∀ x ∈ ps.map (·.2), x.ev env = x.ev env') → fillR env es ps cs = fillR env' es ps cs
  | [], _, _ => rfl
  | (i, x) :: ps, cs, h => by
    have h0 := h x (by simp)
    simp only [fillR, h0]
    split
    · split
      · exact fillR_congr ps _ fun y hy => h y (by simp at hy ⊢; exact .inr hy)
      · rfl
    · rfl
theorem bnd_congr {x : Option Opd} {env env' : List (Nat × E)} {d : Nat} (h : ∀ y ∈ x.toList, y.ev env = y.ev env') : bnd x env d = bnd x env' d := by
  cases x with
  | none => rfl
  | some y => simp only [bnd, h y (by simp)]
theorem ex_congr {i : AOp} {env env' : List (Nat × E)} {σ : List AO} (h : ∀ x ∈ i.opds, x.ev env = x.ev env') : i.ex env σ = i.ex env' σ := by
  cases i
  case build z ps => simp only [AOp.ex, fillE_congr ps _ h]
  case bslice es z n ps => simp only [AOp.ex, fillR_congr ps _ h]
  case mkfn f fs cs =>
    simp only [AOp.opds, List.mem_append] at h
    simp only [AOp.ex, List.map_congr_left fun x hx => h x (.inl hx), List.map_congr_left fun x hx => h x (.inr hx)]
  case mxmn m x xs =>
    simp only [AOp.opds, List.mem_cons] at h
    simp only [AOp.ex, h x (.inl rfl), List.map_congr_left fun x hx => h x (.inr hx)]
  case call f xs =>
    simp only [AOp.opds, List.mem_cons] at h
    simp only [AOp.ex, h f (.inl rfl), List.map_congr_left fun x hx => h x (.inr hx)]
  case inv t x xs =>
    simp only [AOp.opds, List.mem_cons] at h
    simp only [AOp.ex, h x (.inl rfl), List.map_congr_left fun x hx => h x (.inr hx)]
  case defer f xs => simp only [AOp.ex]; exact congrArg _ (List.map_congr_left h)
  case deferF f xs =>
    simp only [AOp.opds, List.mem_cons] at h
    simp only [AOp.ex, h f (.inl rfl), List.map_congr_left fun x hx => h x (.inr hx)]
  case slc arr es x lo hi =>
    simp only [AOp.opds, List.mem_cons, List.mem_append] at h
    simp only [AOp.ex, h x (.inl rfl), bnd_congr (x := lo) fun y hy => h y (.inr (.inl hy)), bnd_congr (x := hi) fun y hy => h y (.inr (.inr hy))]
  all_goals (simp only [AOp.opds, List.mem_cons, List.not_mem_nil, or_false, forall_eq_or_imp, forall_eq, false_imp_iff, implies_true] at h; simp only [AOp.ex, h])
theorem looks_ev {i : AI} {env env' : List (Nat × E)} (h : ∀ t ∈ i.looks, lk env t = lk env' t) : ∀ x ∈ i.op.opds, x.ev env = x.ev env' := fun x hx => by
  cases x with
  | tmp t => exact h t (List.mem_append_left _ (List.mem_filterMap.2 ⟨_, hx, rfl⟩))
  | _ => rfl
theorem looks_g {i : AI} {t : Nat} {b : Bool} (h : i.g = some (t, b)) : t ∈ i.looks := by simp [AI.looks, h]
def Calm (σ : List AO) : Res → Prop
  | .no => True
  | .ok _ σ' => σ' = σ
  | .need _ r => Calm σ r
  | _ => False
theorem calm_ofO {σ : List AO} {o : Option E} : Calm σ (ofO σ o) := by cases o <;> simp [ofO, Calm]
theorem eager_calm {i : AOp} {env : List (Nat × E)} {σ : List AO} (h : i.eager = true) : Calm σ (i.ex env σ) := by
  cases i <;> simp only [AOp.eager, Bool.false_eq_true] at h
  all_goals simp only [AOp.ex]
  all_goals (repeat' split)
  all_goals first | exact calm_ofO | simp [Calm]
  all_goals (repeat' split)
  all_goals simp [Calm]
theorem pure_res {i : AOp} {env : List (Nat × E)} {σ σ' : List AO} {e : E} (h : i.pure = true) (hr : resIs σ e (i.ex env σ)) : resIs σ' e (i.ex env σ') := by
  have ofo : ∀ {o : Option E}, resIs σ e (ofO σ o) → resIs σ' e (ofO σ' o) := fun {o} h => by
    cases o
    · exact h
    · exact ⟨h.1, rfl⟩
  cases i <;> simp only [AOp.pure, Bool.false_eq_true] at h
  case pick c a b =>
    simp only [AOp.ex] at hr ⊢
    split at hr
    · exact ⟨hr.1, rfl⟩
    · exact hr.elim
  case tass t ok x =>
    simp only [AOp.ex] at hr ⊢
    split at hr
    · split at hr
      · rename_i h; rw [if_pos h]; exact ⟨hr.1, rfl⟩
      · exact hr.elim
    · exact hr.elim
  case eqb n a b =>
    simp only [AOp.ex] at hr ⊢
    split at hr
    · exact ⟨hr.1, rfl⟩
    · exact hr.elim
  case aidx sz ag k x i =>
    simp only [AOp.ex] at hr ⊢
    split at hr
    · exact ⟨hr.1, ofo hr.2⟩
    · exact ⟨hr.1, ofo hr.2⟩
    · exact hr.elim
  case sidx bs x =>
    simp only [AOp.ex] at hr ⊢
    split at hr
    · split at hr
      · exact ⟨hr.1, hr.2.1, rfl⟩
      · exact hr.elim
    · exact hr.elim
  all_goals (simp only [AOp.ex] at hr ⊢; repeat' split at hr)
  all_goals first | exact hr.elim | exact ⟨hr.1, rfl⟩ | exact ofo hr | skip
theorem calm_yld {W : W} {s : St} {K : E → St → Prop} {Kp : T → St → Prop} : ∀ {r : Res}, Calm s.σ r → wpRes W s K Kp r → ∃ e, resIs s.σ e r ∧ K e s := by
  intro r
  induction r with
  | ok e σ' => intro h h0; cases h; exact ⟨e, ⟨rfl, rfl⟩, h0⟩
  | need c r ih => intro h h0; obtain ⟨e, h1, h2⟩ := ih h h0.2; exact ⟨e, ⟨h0.1, h1⟩, h2⟩
  | no => intro _ h; exact h.elim
  | _ => intro h; exact h.elim
theorem resIs_wp {W : W} {s : St} {K : E → St → Prop} {Kp : T → St → Prop} {e : E} : ∀ {r : Res}, resIs s.σ e r → K e s → wpRes W s K Kp r := by
  intro r
  induction r with
  | ok e' σ' => rintro ⟨rfl, rfl⟩ h; exact h
  | need c r ih => intro h h0; exact ⟨h.1, ih h.2 h0⟩
  | _ => intro h; exact h.elim
theorem eager_yld {W : W} {i : AI} (hi : i.op.eager = true) {K : St → Prop} {Kp : T → St → Prop} {s : St} (h : wpI W i K Kp s) : ∃ e, Yld i e s ∧ K (s.put i.dst e) := by
  unfold wpI at h
  unfold Yld
  split at h
  · rename_i hg; exact calm_yld (eager_calm hi) h
  · rename_i t b hg
    split at h
    · rename_i v hv
      cases hb : gv v b with
      | true =>
        obtain ⟨e, h1, h2⟩ := calm_yld (eager_calm hi) (h.1 hb)
        exact ⟨e, ⟨fun _ => h1, fun h => (by cases h)⟩, h2⟩
      | false => exact ⟨_, ⟨fun h => (by cases h), fun _ => rfl⟩, h.2 hb⟩
    · exact h.elim
theorem yld_wpI {W : W} {i : AI} {e : E} {K : St → Prop} {Kp : T → St → Prop} {s : St} (hy : Yld i e s) (h : K (s.put i.dst e)) : wpI W i K Kp s := by
  unfold Yld at hy
  unfold wpI
  split at hy
  · rename_i hg; exact resIs_wp hy h
  · rename_i t b hg
    split at hy
    · rename_i v hv
      exact ⟨fun hb => resIs_wp (hy.1 hb) h, fun hb => by rw [← hy.2 hb]; exact h⟩
    · exact hy.elim
theorem Yld.congr {i : AI} {e : E} {s s' : St} (hσ : i.op.pure = true ∨ s'.σ = s.σ) (hl : ∀ t ∈ i.looks, lk s.env t = lk s'.env t) (h : Yld i e s) : Yld i e s' := by
  have hx : i.op.ex s'.env s.σ = i.op.ex s.env s.σ := (ex_congr (looks_ev hl)).symm
  have hr : resIs s.σ e (i.op.ex s.env s.σ) → resIs s'.σ e (i.op.ex s'.env s'.σ) := fun h => by
    rw [← hx] at h
    rcases hσ with hp | hσ
    · exact pure_res hp h
    · rw [hσ]; exact h
  unfold Yld at h ⊢
  split at h
  · rename_i hg; exact hr h
  · rename_i t b hg
    simp only [← hl t (looks_g hg)]
    split at h
    · rename_i v hv
      exact ⟨fun hb => hr (h.1 hb), h.2⟩
    · exact h.elim
structure Eqv (s s' : St) : Prop where
  σ : s.σ = s'.σ
  df : s.df = s'.df
  k : s.k = s'.k
  env : ∀ i, lk s.env i = lk s'.env i
theorem Eqv.refl (s : St) : Eqv s s := ⟨rfl, rfl, rfl, fun _ => rfl⟩
theorem Eqv.symm {s s' : St} (h : Eqv s s') : Eqv s' s := ⟨h.σ.symm, h.df.symm, h.k.symm, fun i => (h.env i).symm⟩
theorem Eqv.trans {s s' s'' : St} (h : Eqv s s') (h' : Eqv s' s'') : Eqv s s'' := ⟨h.σ.trans h'.σ, h.df.trans h'.df, h.k.trans h'.k, fun i => (h.env i).trans (h'.env i)⟩
def St.upd (s : St) (σ : List AO) (df : List Df) (k : Nat) : St := { s with σ := σ, df := df, k := k }
theorem wpRes_congr {W : W} {s s' : St} {K K' : E → St → Prop} {Kp : T → St → Prop} (hσ : s.σ = s'.σ) (hdf : s.df = s'.df) (hk : s.k = s'.k) (hc : ∀ t ∈ W.pn, lk s.env t = lk s'.env t)
    (hK : ∀ e σ df k, K e (s.upd σ df k) → K' e (s'.upd σ df k)) {r : Res} : wpRes W s K Kp r → wpRes W s' K' Kp r := by
  have hcut : ∀ σ, (St.cut W.pn { s with σ := σ }) = St.cut W.pn { s' with σ := σ } := fun σ => by
    simp only [St.cut, hdf, hk, List.map_congr_left fun t ht => congrArg (fun e => (t, e)) (hc t ht)]
  induction r with
  | no => exact fun h => h
  | ok e σ' => intro h; have := hK e σ' s.df s.k h; rwa [hdf, hk] at this
  | pan x =>
    intro h
    simp only [wpRes] at h ⊢
    have h1 : s.cut W.pn = St.cut W.pn { s with σ := s.σ } := rfl
    have h2 : s'.cut W.pn = St.cut W.pn { s' with σ := s.σ } := by rw [hσ]
    rw [h2, ← hcut]
    exact h
  | call f args =>
    intro h
    simp only [wpRes] at h ⊢
    rw [← hσ]
    refine h.mono fun o σ' h1 => ?_
    cases o with
    | ret e => have := hK e σ' s.df s.k h1; rwa [hdf, hk] at this
    | pan x => simp only at h1 ⊢; rw [← hcut]; exact h1
  | yield args =>
    intro h
    simp only [wpRes] at h ⊢
    split at h
    · split at h
      · refine ⟨h.1, ?_, ?_, ?_, ?_⟩
        · rw [← hk]; exact h.2.1
        · have h1 := h.2.2.1
          split at h1
          · trivial
          · rename_i n _
            have := hK _ s.σ s.df n h1
            rw [hσ, hdf] at this
            exact this
        · have h1 := h.2.2.2.1
          split at h1
          · trivial
          · rename_i n x _
            have hcn : St.cut W.pn { s with k := n } = St.cut W.pn { s' with k := n } := by
              simp only [St.cut, hdf, hσ, List.map_congr_left fun t ht => congrArg (fun e => (t, e)) (hc t ht)]
            rw [← hcn]
            exact h1
        · have := hK _ s.σ s.df (s.k + 1) h.2.2.2.2
          rw [hσ, hdf, hk] at this
          exact this
      · exact h.elim
    · exact h.elim
  | need c r ih => exact fun h => ⟨h.1, ih h.2⟩
  | defer f args =>
    intro h
    refine ⟨h.1, ?_⟩
    have := hK _ s.σ (.call f args :: s.df) s.k h.2
    rw [hσ, hdf, hk] at this
    exact this
  | any k ih => exact fun h i => ih i (h i)
  | triv => exact fun h => h
theorem wpI_congr {W : W} {i : AI} {s s' : St} {K K' : St → Prop} {Kp : T → St → Prop} (hσ : s.σ = s'.σ) (hdf : s.df = s'.df) (hk : s.k = s'.k) (hc : ∀ t ∈ W.pn, lk s.env t = lk s'.env t) (hl : ∀ t ∈ i.looks, lk s.env t = lk s'.env t)
    (hK : ∀ e σ df k, K ((s.upd σ df k).put i.dst e) → K' ((s'.upd σ df k).put i.dst e)) (h : wpI W i K Kp s) : wpI W i K' Kp s' := by
  have hx : i.op.ex s'.env s'.σ = i.op.ex s.env s.σ := by rw [← hσ]; exact (ex_congr (looks_ev hl)).symm
  have hr : wpRes W s (fun e s' => K (s'.put i.dst e)) Kp (i.op.ex s.env s.σ) → wpRes W s' (fun e s' => K' (s'.put i.dst e)) Kp (i.op.ex s'.env s'.σ) := fun h => by
    rw [hx]
    exact wpRes_congr hσ hdf hk hc (fun e σ df k h1 => hK e σ df k h1) h
  unfold wpI at h ⊢
  split at h
  · rename_i hg; exact hr h
  · rename_i t b hg
    simp only [← hl t (looks_g hg)]
    split at h
    · rename_i v hv
      refine ⟨fun hb => hr (h.1 hb), fun hb => ?_⟩
      have := hK (.t (.lit undef)) s.σ s.df s.k (h.2 hb)
      rw [hσ, hdf, hk] at this
      exact this
    · exact h.elim
theorem put_env {s : St} {d : Option Nat} {e : E} (t : Nat) (h : d ≠ some t) : lk (s.put d e).env t = lk s.env t := by
  cases d with
  | none => rfl
  | some d => simp only [St.put, lk]; rw [if_neg fun e => h (by rw [e])]
theorem put_self {s : St} {d : Nat} {e : E} : lk (s.put (some d) e).env d = e := by simp [St.put, lk]
theorem Eqv.put {s s' : St} (h : Eqv s s') (d : Option Nat) (e : E) : Eqv (s.put d e) (s'.put d e) := by
  cases d with
  | none => exact h
  | some d => exact ⟨h.σ, h.df, h.k, fun i => by simp only [St.put, lk]; split <;> simp [h.env]⟩
theorem Eqv.upd {s s' : St} (h : Eqv s s') (σ : List AO) (df : List Df) (k : Nat) : Eqv (s.upd σ df k) (s'.upd σ df k) := ⟨rfl, rfl, rfl, h.env⟩
theorem put_comm {s : St} {d d' : Option Nat} {e e' : E} (h : ∀ t, d = some t → d' ≠ some t) : Eqv ((s.put d e).put d' e') ((s.put d' e').put d e) := by
  cases d with
  | none => exact Eqv.refl _
  | some d =>
    cases d' with
    | none => exact Eqv.refl _
    | some d' =>
      have hne : d' ≠ d := fun e => h d rfl (by rw [e])
      refine ⟨rfl, rfl, rfl, fun i => ?_⟩
      simp only [St.put, lk]
      by_cases h1 : i = d'
      · subst h1; simp [hne]
      · simp [h1]
theorem wpI_eqv {W : W} {i : AI} {s s' : St} {K : St → Prop} {Kp : T → St → Prop} (he : Eqv s s') (hK : ∀ s s', Eqv s s' → K s → K s') (h : wpI W i K Kp s) : wpI W i K Kp s' :=
  wpI_congr he.σ he.df he.k (fun t _ => he.env t) (fun t _ => he.env t) (fun _ _ _ _ h1 => hK _ _ ((he.upd _ _ _).put _ _) h1) h
theorem wpI_env {W : W} {i : AI} {s : St} {K : St → Prop} {Kp : T → St → Prop} (h : wpI W i K Kp s) : wpI W i (fun s' => K s' ∧ ∀ t, i.dst ≠ some t → lk s'.env t = lk s.env t) Kp s :=
  wpI_congr rfl rfl rfl (fun _ _ => rfl) (fun _ _ => rfl) (fun e σ df k h1 => ⟨h1, fun t ht => by rw [put_env t ht]; rfl⟩) h
theorem chkOK_iff {s : St} : ∀ {l : List AI}, chkOK s l ↔ ∀ x ∈ l, ∀ d, x.dst = some d → Yld x (lk s.env d) s
  | [] => by simp [chkOK]
  | i :: l => by
    simp only [chkOK, chkOK_iff (l := l), List.mem_cons, forall_eq_or_imp]
    refine and_congr_left fun _ => ?_
    cases i.dst <;> simp
section
variable (W : W) (ops : Array Oper) (is : List AI) (Q : St → Prop) (Kp : T → St → Prop)
def wpAnyA : Nat → List Nat → Array Bool → St → Prop
  | 0, _, listed, s => Region.ready .any ops listed = [] ∧ Q s
  | n + 1, O, listed, s => (Region.ready .any ops listed = [] → Q s) ∧
    ∀ j ∈ Region.ready .any ops listed, ∀ y, is[j]? = some y → wpI W y (fun s' => (y.op.eager = false → chkOK s' (chks ops is O j)) ∧ wpAnyA n O (listed.setIfInBounds j true) s') Kp s
variable {W ops is Q Kp}
theorem Yld.eqv {i : AI} {e : E} {s s' : St} (he : Eqv s s') (h : Yld i e s) : Yld i e s' := h.congr (.inr he.σ.symm) fun t _ => he.env t
theorem chkOK.eqv {s s' : St} {l : List AI} (he : Eqv s s') (h : chkOK s l) : chkOK s' l :=
  chkOK_iff.2 fun x hx d hd => by rw [← he.env d]; exact (chkOK_iff.1 h x hx d hd).eqv he
theorem wpAnyA_eqv (hQ : ∀ s s', Eqv s s' → Q s → Q s') : ∀ (n : Nat) (O : List Nat) (listed : Array Bool) (s s' : St), Eqv s s' → wpAnyA W ops is Q Kp n O listed s → wpAnyA W ops is Q Kp n O listed s'
  | 0, _, _, _, _, he, h => ⟨h.1, hQ _ _ he h.2⟩
  | n + 1, O, listed, s, s', he, h => ⟨fun h0 => hQ _ _ he (h.1 h0), fun j hj y hy => wpI_eqv he (fun s s' he h1 => ⟨fun hn => (h1.1 hn).eqv he, wpAnyA_eqv hQ n O _ s s' he h1.2⟩) (h.2 j hj y hy)⟩
theorem wpAnyA_less {O O' : List Nat} (hO : ∀ i ∈ O, i ∈ O') : ∀ (n : Nat) (listed : Array Bool) (s : St), wpAnyA W ops is Q Kp n O' listed s → wpAnyA W ops is Q Kp n O listed s
  | 0, _, _, h => h
  | n + 1, listed, s, h => ⟨h.1, fun j hj y hy => wpI_mono (fun s' h1 => ⟨fun hn => chkOK_iff.2 fun x hx => chkOK_iff.1 (h1.1 hn) x (by
      unfold chks at hx ⊢
      obtain ⟨i, hi, h⟩ := List.mem_filterMap.1 hx
      exact List.mem_filterMap.2 ⟨i, hO i hi, h⟩), wpAnyA_less hO n _ s' h1.2⟩) (fun _ _ h => h) (h.2 j hj y hy)⟩
theorem apartI_spec {x y : AI} (h : apartI x y = true) : (∀ d, x.dst = some d → d ∉ y.looks ∧ y.dst ≠ some d) ∧ ∀ d, y.dst = some d → d ∉ x.looks := by
  unfold apartI at h
  simp only [Bool.and_eq_true] at h
  refine ⟨fun d hd => ?_, fun d hd => ?_⟩
  · have := h.1; rw [hd] at this; simpa using this
  · have := h.2; rw [hd] at this; simpa using this
theorem ready_preds {listed : Array Bool} {j : Nat} (h : j ∈ Region.ready .any ops listed) : ∀ i ∈ preds ops j, listed.getD i false = true := by
  obtain ⟨_, o, ho, hall⟩ := mem_ready.1 h
  intro i hi
  unfold preds at hi
  rw [ho] at hi
  obtain ⟨e, he, rfl⟩ := List.mem_map.1 hi
  obtain ⟨h1, h2⟩ := List.mem_filter.1 he
  exact hall e (by simpa using h1) h2
theorem wpAnyA_first {i d : Nat} {x : AI} {e : E} (hQ : ∀ s s', Eqv s s' → Q s → Q s') (hx : is[i]? = some x) (hd : x.dst = some d) (heag : x.op.eager = true) (hself : d ∉ x.looks) (hpn : d ∉ W.pn) :
    ∀ (n : Nat) (O O' : List Nat) (listed : Array Bool) (s : St), (∀ i' ∈ O, ∀ x', is[i']? = some x' → d ∉ x'.looks ∧ x'.dst ≠ some d) → (O' = i :: O ∨ x.op.pure = true ∧ O' = O) →
      (∀ j y, is[j]? = some y → j ≠ i → listed.getD j true = false → i ∉ preds ops j → apartI x y = true) → i ∈ Region.ready .any ops listed → Yld x e s →
      wpAnyA W ops is Q Kp n O' (listed.setIfInBounds i true) (s.put (some d) e) → wpAnyA W ops is Q Kp (n + 1) O listed s := by
  intro n
  induction n with
  | zero =>
    intro O O' listed s hO hO' hfree hr hy H
    refine ⟨fun h => (by rw [h] at hr; cases hr), fun j hj y hyj => ?_⟩
    by_cases hji : j = i
    · subst hji
      rw [hx] at hyj; cases hyj
      exact yld_wpI hy (by rw [hd]; exact ⟨fun h => (by rw [heag] at h; cases h), H⟩)
    · have := ready_mono hj hji
      rw [H.1] at this
      cases this
  | succ n ih =>
    intro O O' listed s hO hO' hfree hr hy H
    have hsub : ∀ i ∈ O, i ∈ O' := fun a ha => by
      rcases hO' with rfl | ⟨_, rfl⟩
      · exact List.mem_cons_of_mem _ ha
      · exact ha
    refine ⟨fun h => (by rw [h] at hr; cases hr), fun j hj y hyj => ?_⟩
    by_cases hji : j = i
    · subst hji
      rw [hx] at hyj; cases hyj
      exact yld_wpI hy (by rw [hd]; exact ⟨fun h => (by rw [heag] at h; cases h), wpAnyA_less hsub _ _ _ H⟩)
    · have h1 := H.2 j (ready_mono hj hji) y hyj
      obtain ⟨hjun, _⟩ := mem_ready.1 hj
      have hiun := (mem_ready.1 hr).1
      have hnot : i ∉ preds ops j := fun hp => by
        have h1 := ready_preds hj i hp
        rcases Nat.lt_or_ge i listed.size with h' | h'
        · simp [h'] at h1 hiun; rw [hiun] at h1; cases h1
        · simp [Array.getElem?_eq_none h'] at h1
      obtain ⟨hap1, hap2⟩ := apartI_spec (hfree j y hyj hji hjun hnot)
      obtain ⟨hap1, hap3⟩ := hap1 d hd
      -- the operation y, with x's value already there, and without it
      have h2 : wpI W y (fun s' => ((y.op.eager = false → chkOK (s'.put (some d) e) (chks ops is O' j)) ∧ wpAnyA W ops is Q Kp n O' ((listed.setIfInBounds i true).setIfInBounds j true) (s'.put (some d) e))) Kp s := by
        refine wpI_congr (s := s.put (some d) e) rfl rfl rfl (fun t ht => put_env t (by simp only [ne_eq, Option.some.injEq]; intro h; exact hpn (h ▸ ht))) (fun t ht => put_env t (by simp only [ne_eq, Option.some.injEq]; intro h; exact hap1 (h ▸ ht))) ?_ h1
        intro e' σ df k h3
        have hcomm : Eqv (((s.put (some d) e).upd σ df k).put y.dst e') (((s.upd σ df k).put y.dst e').put (some d) e) := put_comm (s := s.upd σ df k) (d := some d) fun t ht => by cases ht; exact hap3
        exact ⟨fun hn => (h3.1 hn).eqv hcomm, wpAnyA_eqv hQ _ _ _ _ _ hcomm h3.2⟩
      have h3 : wpI W y (fun s' => (((y.op.eager = false → chkOK (s'.put (some d) e) (chks ops is O' j)) ∧ wpAnyA W ops is Q Kp n O' ((listed.setIfInBounds i true).setIfInBounds j true) (s'.put (some d) e)) ∧
          Yld x e s')) Kp s := by
        cases hye : y.op.eager with
        | true =>
          obtain ⟨e', hy', h4⟩ := eager_yld hye h2
          refine yld_wpI hy' ⟨⟨fun h => (by cases h), h4.2⟩, hy.congr (.inr (by cases y.dst <;> rfl)) fun t ht => (put_env t fun h => hap2 t h ht).symm⟩
        | false =>
          refine wpI_mono (fun s' h4 => ?_) (fun _ _ h => h) (wpI_env h2)
          obtain ⟨⟨h5, h6⟩, h7⟩ := h4
          refine ⟨⟨fun _ => h5 hye, h6⟩, ?_⟩
          rcases hO' with rfl | ⟨hp, rfl⟩
          · have h8 := chkOK_iff.1 (h5 hye) x (List.mem_filterMap.2 ⟨i, List.mem_cons_self, by rw [if_neg (by simpa using hnot)]; exact hx⟩) d hd
            rw [put_self] at h8
            exact h8.congr (s := s'.put (some d) e) (s' := s') (.inr rfl) fun t ht => put_env t (by simp only [ne_eq, Option.some.injEq]; intro h; exact hself (h ▸ ht))
          · exact hy.congr (.inl hp) fun t ht => (h7 t fun h => hap2 t h ht).symm
      refine wpI_mono (fun s' h4 => ?_) (fun _ _ h => h) h3
      obtain ⟨⟨h5, h6⟩, h7⟩ := h4
      refine ⟨fun hn => chkOK_iff.2 fun x' hx' d' hd' => ?_, ?_⟩
      · obtain ⟨i', hi', hc⟩ := List.mem_filterMap.1 hx'
        split at hc
        · cases hc
        obtain ⟨g1, g2⟩ := hO i' hi' x' hc
        have h8 := chkOK_iff.1 (h5 hn) x' (List.mem_filterMap.2 ⟨i', hsub i' hi', by rw [if_neg (by assumption)]; exact hc⟩) d' hd'
        rw [put_env d' (by simp only [ne_eq, Option.some.injEq]; intro h; exact g2 (h ▸ hd'))] at h8
        exact h8.congr (s := s'.put (some d) e) (s' := s') (.inr rfl) fun t ht => put_env t (by simp only [ne_eq, Option.some.injEq]; intro h; exact g1 (h ▸ ht))
      · refine ih O O' (listed.setIfInBounds j true) s' hO hO' (fun k z hk hki hun hno => hfree k z hk hki ?_ hno) (ready_mono hr (Ne.symm hji)) h7 ?_
        · by_cases hjk : j = k
          · subst hjk; exact hjun
          · rw [getD_set_ne true hjk] at hun; exact hun
        · rw [Array.setIfInBounds_comm _ _ hji]
          exact h6
theorem gen_ok (hQ : ∀ s s', Eqv s s' → Q s → Q s') : ∀ (n : Nat) (O : List Nat) (listed : Array Bool) (t : DT) (s : St), gen W.pn ops is n O listed = some t → awpD W Q Kp t s → wpAnyA W ops is Q Kp n O listed s
  | 0, O, listed, t, s, h, h0 => by
    simp only [gen] at h
    split at h
    · rename_i hr; cases h; exact ⟨hr, h0⟩
    · cases h
  | n + 1, O, listed, t, s, h, h0 => by
    simp only [gen] at h
    split at h
    · rename_i hr
      cases h
      exact ⟨fun _ => h0, by rw [hr]; simp⟩
    · rename_i hne
      split at h
      · rename_i i hf
        have hmem := List.mem_of_find?_eq_some hf
        have htake := List.find?_some hf
        split at h
        · rename_i x hx
          obtain ⟨t', ht, rfl⟩ := Option.map_eq_some_iff.1 h
          unfold takeOK at htake
          rw [hx] at htake
          simp only [Bool.and_eq_true] at htake
          obtain ⟨⟨heag, hdst⟩, hfree⟩ := htake
          split at hdst
          · rename_i d hd
            simp only [Bool.and_eq_true, Bool.not_eq_true', List.contains_eq_mem, decide_eq_false_iff_not] at hdst
            obtain ⟨⟨hself, hpn⟩, hO⟩ := hdst
            obtain ⟨e, hy, h1⟩ := eager_yld heag h0
            have h2 := gen_ok hQ n _ _ t' _ ht h1
            rw [hd] at h2
            refine wpAnyA_first hQ hx hd heag hself hpn n O _ listed s (fun i' hi' x' hx' => ?_) ?_ (fun j y hyj hji hun hno => ?_) hmem hy h2
            · have := List.all_eq_true.1 hO i' hi'
              rw [hx'] at this
              simpa using this
            · cases hp : x.op.pure
              · exact .inl (by simp)
              · exact .inr ⟨rfl, by simp⟩
            · have hlt : j < is.length := (List.getElem?_eq_some_iff.1 hyj).1
              have := List.all_eq_true.1 hfree j (List.mem_range.2 hlt)
              rw [hyj] at this
              simp only [Bool.or_eq_true, beq_iff_eq] at this
              rcases this with ((h | h) | h) | h
              · exact absurd h hji
              · rw [hun] at h; cases h
              · exact absurd (by simpa using h) hno
              · exact h
          · cases hdst
        · cases h
      · have hall : ∀ (rs : List Nat) (t : DT), rs.foldr (fun j r => match is[j]?, gen W.pn ops is n O (listed.setIfInBounds j true), r with
            | some y, some t, some r => some (.ev y (chks ops is O j) t r)
            | _, _, _ => none) (some .stop) = some t → awpD W Q Kp t s → ∀ j ∈ rs, ∀ y, is[j]? = some y → wpI W y (fun s' => (y.op.eager = false → chkOK s' (chks ops is O j)) ∧ wpAnyA W ops is Q Kp n O (listed.setIfInBounds j true) s') Kp s := by
          intro rs
          induction rs with
          | nil => intro _ _ _ j hj; cases hj
          | cons r rs ih =>
            intro t ht h0 j hj y hyj
            simp only [List.foldr_cons] at ht
            split at ht
            · rename_i y' t' r' e1 e2 e3
              cases ht
              rcases List.mem_cons.1 hj with rfl | hj
              · rw [hyj] at e1; cases e1
                exact wpI_mono (fun s' h1 => ⟨fun _ => h1.1, gen_ok hQ n O _ t' s' e2 h1.2⟩) (fun _ _ h => h) h0.1
              · exact ih r' e3 h0.2 j hj y hyj
            · cases ht
        exact ⟨fun h => absurd h hne, hall _ t h h0⟩
end
end Go.Ab
