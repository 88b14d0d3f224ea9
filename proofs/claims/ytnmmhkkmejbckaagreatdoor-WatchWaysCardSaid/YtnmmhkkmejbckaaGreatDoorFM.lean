/- Proved here: laws that the statements need (AbR2). No conditions but those that each law states. -/
import Derived.Test.YtnmmhkkmejbckaaGreatDoorFJ

set_option linter.unusedSimpArgs false
set_option linter.unusedVariables false

/- One deferred call, behind marks of ranges over functions. -/
namespace Go.Ab

section
variable {C : Cx} {s : St} {a : Act} {w : World} {ι : Pl} {vis D : Nat → Prop}
/-- The marks are come to, and what is deferred behind them is left. -/
theorem InvX.unmarks {fn : Func} {R : Ending → World → Prop} {u : FrameMode} (hu : u ≠ .run) {tail : List Df} : ∀ (d : Nat) {s : St} {a : Act} {w : World} {vis : Nat → Prop}, s.df = List.replicate d .mark ++ tail → InvX C s a w ι vis D →
    (∀ ds w' vis', InvX C { s with df := tail } { a with defers := ds } w' ι vis' D → (hp vis w).leC (hp vis' w') → w'.heap.size = w.heap.size → (∀ b, vis' b → vis b) → (∀ b, b < C.sz0 → vis b → vis' b) → (∀ b, b < C.sz0 → w'.heap[b]? = w.heap[b]?) →
      LeavesInM Fence.wide 0 C.P fn a.tmps R ds u w') → LeavesInM Fence.wide 0 C.P fn a.tmps R a.defers u w
  | 0, s, a, w, vis, hdf, X, h => by
    have e : s = { s with df := tail } := by
      cases s; simp at hdf; subst hdf; rfl
    exact h a.defers w vis (by rw [← e]; exact X) (leC_refl _) rfl (fun _ h => h) (fun _ _ h => h) (fun _ _ => rfl)
  | d + 1, s, a, w, vis, hdf, X, h => by
    rw [List.replicate_succ, List.cons_append] at hdf
    obtain ⟨r, ds, hds, hrun, hsz, X', hC⟩ := X.unmark hdf
    rw [hds]
    refine ⟨hu, .inl ⟨r, _, rfl, hrun, ?_⟩⟩
    refine InvX.unmarks hu d (s := { s with df := List.replicate d .mark ++ tail }) (a := { a with defers := ds }) rfl X' fun ds' w' vis' X'' h1 h2 h3 h4 h5 => ?_
    exact h ds' w' vis' X'' (leC_trans hC h1) (by simpa using h2) (fun b hb => (h3 b hb).1) (fun b hb hv => h4 b hb ⟨hv, by omega⟩) (fun b hb => by rw [h5 b hb, World.putObj_heap_other (by omega)])
end

def finDM (P : Program) (nb : Nat) (rs : List RV) (R : Out → List AO → Prop) : Ex → St → Prop
  | .normal, s | .ret, s => ∃ d f args, s.df = List.replicate d .mark ++ [.call f args] ∧ s.k = 0 ∧ ADef P f args s.σ none (finR nb rs R s)
  | .pan x, s => ∃ d f args, s.df = List.replicate d .mark ++ [.call f args] ∧ s.k = 0 ∧ ADef P f args s.σ (some x) (finR nb rs R s)
  | _, _ => False

theorem ACall.introDM {P : Program} {f nt na : Nat} {pn gp : List Nat} {rs : List RV} {ac : AC} {args : List E} {σ : List AO} {R : Out → List AO → Prop} (hf : FnC P f nt pn gp rs ac na) (ha : args.length = na)
    (h : awp { P := P, nb := σ.length, pn := pn } ac (finDM P σ.length rs R) { env := argEnv 0 args, σ := σ }) : ACall P f args σ R := by
  obtain ⟨fn, c, h1, h2, h3, rfl, h4, h5, h6⟩ := hf.get
  refine ⟨⟨fn, h1, by rw [h2]; rfl, h3⟩, ?_⟩
  intro C0 k w ι vis D vs hC M0 r
  subst hC
  refine callsIn_of_wp_marks h1 h2 trivial ?_ rfl
  have X := InvX.enter (nt := fn.ntmps) M0 r (by omega)
  have hs := awp_sound c { P := C0.P, nb := σ.length, pn := pn } { C0 with k0 := k, nt := fn.ntmps, sz0 := w.heap.size } ι σ vis D w gp yok_no rfl (Nat.le_refl _) ac h6 _ _ _ w ι vis D X (UpN.refl (Nat.le_refl _) ι vis w) (UpD.refl _ _) h
  refine wpIn_mono hs fun e a' w' ⟨s', ι', vis', D', ex, hx, hq, X', U, ud⟩ => ?_
  -- one deferred call
  have go : ∀ (d f' : Nat) (args' : List E) (px : Option T) (pv : Value), s'.df = List.replicate d .mark ++ [.call f' args'] → s'.k = 0 → (∀ x, px = some x → RepT (hp vis' w') x pv) → ADef C0.P f' args' s'.σ px (finR σ.length rs R s') →
      LeavesInM Fence.wide 0 C0.P fn a'.tmps (fun e w' => ∃ o σ' ι' vis' D', R o σ' ∧ Mem C0 k σ' w' ι' vis' D' ∧ Up ι σ vis w ι' σ' vis' w' ∧ UpD D w D' ∧ RepOut C0.yl ι' σ' (hp vis' w') o e) a'.defers
        (modeIn px pv) w' := by
    intro d f' args' px pv hdf hk hpx0 ⟨hpl, hD⟩
    refine InvX.unmarks (C := { C0 with k0 := k, nt := fn.ntmps, sz0 := w.heap.size }) (by cases px <;> simp [modeIn]) d hdf X' fun ds wm vism Xm g1 g2 g3 g4 g5 => ?_
    have hpx : ∀ x, px = some x → RepT (hp vism wm) x pv := fun x hx => (hpx0 x hx).monoC g1
    have Um : UpN σ.length ι σ vis w ι' s'.σ vism wm := ⟨U.len, U.len', U.fix, U.row, fun b o ⟨q1, q2⟩ => by
        obtain ⟨q3, q4⟩ := U.le b o ⟨q1, q2⟩
        have hlt := M0.visLt b q1
        exact ⟨g4 b hlt q3, by rw [g5 b hlt]; exact q4⟩, by rw [g2]; exact U.size, U.own, fun b hb => U.vis b (g3 b hb)⟩
    have h7 := Xm.df
    obtain ⟨d', l', hl, ⟨vs', cs', rfl, rvs⟩, _, hnil⟩ := h7
    cases hnil
    have hl : ds = [_] := hl
    rw [hl]
    obtain ⟨fn', q1, q2, q3⟩ := hpl
    obtain ⟨b', hb'⟩ := Option.isSome_iff_exists.1 q2
    have hM : Mem { C0 with k0 := k, nt := fn.ntmps, sz0 := w.heap.size } (k + s'.k) s'.σ wm ι' vism D' := Xm.mem
    rw [hk] at hM
    have hc := hD { C0 with k0 := k, nt := fn.ntmps, sz0 := w.heap.size } k wm ι' vism D' (vs' ++ cs') pv rfl hM rvs hpx
    simp only [beq_eq_false_iff_ne] at q3
    have hgo : LeavesIn Fence.wide 0 C0.P fn a'.tmps (fun e w' => ∃ o σ' ι' vis' D', R o σ' ∧ Mem C0 k σ' w' ι' vis' D' ∧ Up ι σ vis w ι' σ' vis' w' ∧ UpD D w D' ∧ RepOut C0.yl ι' σ' (hp vis' w') o e) [{ target := .fn (.func f') cs'.toArray, args := vs'.toArray }] (modeIn px pv) wm := by
      refine leavesIn_cons (by cases px <;> simp [modeIn]) (by simp [Fence.wide]) (f := f') (args := (vs' ++ cs').toArray) (by simp [invoke, callFunc, q1, hb', q3]) (fun _ _ => trivial) ?_
      refine hc.mono fun e u w'' ⟨⟨r, hr⟩, hu, σ2, ι2, vis2, D2, ⟨e', he', kp, hkp, hkb, hR⟩, M2, u2, ud2⟩ => ?_
      subst hr
      subst hu
      have hset : settle (modeOut px pv) = .returning := by cases px <;> rfl
      simp only [hset]
      -- the results are read
      have X2 : InvX { C0 with k0 := k, nt := fn.ntmps, sz0 := w.heap.size } { env := s'.env, σ := σ2, df := [], k := 0 } { a' with defers := [] } w'' ι2 vis2 D2 := ⟨M2, X'.sz, fun i => (Xm.env i).mono u2.goes u2.le, rfl⟩
      obtain ⟨v, hv, rv⟩ := resV_ok (C := { C0 with k0 := k, nt := fn.ntmps, sz0 := w.heap.size }) X2 (fn := fn) h5 (e := e') (by rw [← he']; exact (resV_df (s := { env := s'.env, σ := σ2, df := s'.df, k := 0 })).symm ▸ by rw [← hk])
      have M3 := M2.gc 12 hkp
      have U2 : UpN σ.length ι σ vis w ι2 σ2 vis2 w'' := Um.trans (UpN.of U.len' u2)
      exact ⟨v, hv, _, σgc kp σ2 12, gcPl kp ι2, gcVis kp ι2 vis2, D2, hR, ⟨M3.glob, M3.inj, M3.own, M3.visLt, M3.DLt, M3.visD, M3.objs, M3.hist⟩, (U2.trans (UpN.gc (s := { env := [], σ := σ2 }) (lv := []) (UpN.refl U2.len' _ _ _) hkb)).up,
        ud.trans (w' := w') ⟨ud2.1, fun b hb => (ud2.2 b hb).imp id fun h => by rw [← g2]; exact h⟩ U.size, gc_ok M2 12 12 e' v rv rfl⟩
    exact ⟨hgo.1, .inr hgo.2⟩
  cases e <;> cases ex <;> first | exact hx.elim | skip
  · obtain ⟨d, f', args', q1, q2, q3⟩ := hq
    exact go d f' args' none .nilIface q1 q2 (fun _ h => by cases h) q3
  · exact hq.elim
  · obtain ⟨d, f', args', q1, q2, q3⟩ := hq
    exact go d f' args' none .nilIface q1 q2 (fun _ h => by cases h) q3
  · obtain ⟨d, f', args', q1, q2, q3⟩ := hq
    obtain ⟨v, rfl, rv⟩ := hx
    exact go d f' args' (some _) v q1 q2 (fun _ h => by cases h; exact rv) q3

/-! ### In the form that simp walks -/
def finDML (P : Program) (nb : Nat) [rs : Lz (List RV)] [R : Lz (Out → List AO → Prop)] (e : Ex) (s : St) : Prop := finDM P nb rs.get R.get e s
section
variable {P : Program} {nb : Nat} {rs : Lz (List RV)} {R : Lz (Out → List AO → Prop)} {s : St}
theorem finDML_normal : @finDML P nb rs R .normal s = @finDML P nb rs R .ret s := propext Iff.rfl
theorem finDML_exit {i : Nat} : @finDML P nb rs R (.exit i) s = False := propext Iff.rfl
theorem finDML_ret (d : Nat) {f : Nat} {args : List E} (h1 : s.df = List.replicate d .mark ++ [.call f args]) (h2 : s.k = 0) (h3 : ADef P f args s.σ none (finR nb rs.get R.get s)) : @finDML P nb rs R .ret s := ⟨d, f, args, h1, h2, h3⟩
theorem finDML_pan (d : Nat) {x : T} {f : Nat} {args : List E} (h1 : s.df = List.replicate d .mark ++ [.call f args]) (h2 : s.k = 0) (h3 : ADef P f args s.σ (some x) (finR nb rs.get R.get s)) : @finDML P nb rs R (.pan x) s := ⟨d, f, args, h1, h2, h3⟩
end
attribute [go_sem] finDML_normal finDML_exit
theorem ACall.walkDM {P : Program} {f nt na : Nat} {pn gp : List Nat} {rs : List RV} {ac : AC} {args : List E} {σ : List AO} {R : Out → List AO → Prop} (hf : FnC P f nt pn gp rs ac na)
    (h : @awpL { P := P, nb := σ.length, pn := pn } ⟨ac⟩ ⟨fun e s => @finDML P σ.length ⟨rs⟩ ⟨R⟩ e s⟩ { env := argEnv 0 args, σ := σ, df := [], k := 0 }) (ha : args.length = na := by rfl) : ACall P f args σ R := ACall.introDM hf ha h
end Go.Ab
