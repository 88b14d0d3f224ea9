/- Proved here: laws that the statements need (AbQ2). No conditions but those that each law states. -/
import Derived.Test.YtnmmhkkmejbckaaGreatDoorFJ

set_option linter.unusedSimpArgs false
set_option linter.unusedVariables false

/- A deferred closure: its first region asks for what panics, and goes on. -/
namespace Go.Ab

section
variable {F : Fence} {n : Nat} {P : Program} {Q : Exit → Act → List Frame → World → Prop} {a : Act} {cs : List Frame} {w : World}
theorem wpSIn_region_head {id : Nat} {ops : Array Oper} {o : Oper} (ho : ops[0]? = some o) (hw : Region.wanted o (yielded ops a.tmps) = true) (hr : (execOp a.eval o).run P w = .ok .recover w) (hF0 : F.round = none)
    (habout : ∀ f, o.about P w a.eval = some f → F.fn f) {v : Value} {cs1 : List Frame} (hlen : cs1.length = cs.length)
    (hrec : (match recoverD cs with | some (v, cs2) => (v, cs2) | none => (.nilIface, cs)) = (v, cs1))
    {Q1 : Exit → Act → World → Prop} (h : wpOpsIn F n P ops Q1 (List.range' 1 (ops.size - 1)) (a.put o.dst v) w) (hQ : ∀ e a' w', Q1 e a' w' → Q e a' cs1 w') : (Code.region id ops false).wpSIn F n P Q a cs w := by
  intro b k hb hro hF hroom
  have hsz : List.range ops.size = 0 :: List.range' 1 (ops.size - 1) := by
    have : 0 < ops.size := (Array.getElem?_eq_some_iff.1 ho).1
    rw [List.range_eq_range', show ops.size = (ops.size - 1) + 1 by omega, List.range'_succ]
    simp
  have i0 : (lone (b.atR a (.code (.region id ops false) :: k)) cs w).fenced P F := fenced_calm hF hroom rfl
  have h0 : (lone (b.atR a (.inRegion ops (0 :: List.range' 1 (ops.size - 1)) :: k)) cs w).fenced P F := fenced_oper hF hroom ho habout
  have hg := stepGR_op (P := P) (b := b) (k := k) (cs := cs) (w := w) (rest := List.range' 1 (ops.size - 1)) ho hw
  rw [hro, Oper.semAt_none] at hg
  have hfin : ∀ v, (b.atR a (.inRegion ops (0 :: List.range' 1 (ops.size - 1)) :: k)).finish v = b.atR (a.put o.dst v) (.inRegion ops (List.range' 1 (ops.size - 1)) :: k) := by
    intro v; rw [Frame.finish_atR, ho]; rfl
  have hk : (b.atR a (.inRegion ops (0 :: List.range' 1 (ops.size - 1)) :: k)).kind = .deferred := hb
  have htr := tryRecover_deferred hk cs
  obtain ⟨e, a', w'', hq, harr⟩ := wp_opsIn _ _ _ h b k cs1 (hro.trans hF0.symm) hF (by rw [hlen]; exact hroom)
  refine ⟨e, a', cs1, w'', hlen, hQ _ _ _ hq, .of_steps (.one i0 (by rw [stepR_region, hsz])) (.of_steps (.one h0 (step_lone_go ?_)) harr)⟩
  rw [hg, ← hfin]
  simp only [Frame.atR, hro] at htr ⊢
  revert hrec
  split
  · rename_i v2 cs2 hrec2
    intro hrec
    cases hrec
    simp [stepG.apply, hr, htr, hrec2]
  · rename_i hrec2
    intro hrec
    cases hrec
    simp [stepG.apply, hr, htr, hrec2]
end

/-- What a walk needs of such a closure. -/
structure FnB (P : Program) (f : Nat) (nt : Nat) (d : Nat) (is : List AI) (na : Nat) : Prop where
  get : ∃ (fn : Func) (id : Nat) (r : Oper) (tail : List Oper) (ats : Array TypeId), P.funcs[f]? = some fn ∧ fn.body = some (.region id (r :: tail).toArray false) ∧ (fn.name == "runtime.NumGoroutine") = false ∧ fn.ntmps = nt ∧ na ≤ nt ∧ fn.results = #[] ∧
    r.op = .call { callee := .builtin .recover, args := #[], argTypes := ats } ∧ r.dst = some d ∧ r.guard = none ∧ d < nt ∧ compIs P nt (r :: tail).toArray tail = some is

theorem ADef.introB {P : Program} {f nt d na : Nat} {is : List AI} {args : List E} {σ : List AO} {px : Option T} {R : List AO → Prop} (hf : FnB P f nt d is na) (ha : args.length = na)
    (h : wpIs { P := P, nb := σ.length } (fun s => finA R .normal s) (fun _ _ => False) is { env := (d, .t (pxT px)) :: argEnv 0 args, σ := σ }) : ADef P f args σ px R := by
  obtain ⟨fn, id, rr, tail, ats, h1, h2, h3, rfl, h4, h5, g1, g2, g3, g7, h6a⟩ := hf.get
  refine ⟨⟨fn, h1, by rw [h2]; rfl, h3⟩, ?_⟩
  intro C0 k w ι vis D vs v hC M0 r hpx
  subst hC
  have he : RepT (hp vis w) (pxT px) (pxV px v) := by
    cases px with
    | none => unfold pxT pxV RepT; rfl
    | some x => exact hpx x rfl
  refine callsDIn_of_wpSIn h1 h2 trivial fun c₀ cs hmode => ?_
  have X := InvX.enter (nt := fn.ntmps) M0 r (by omega)
  generalize ({ tmps := vs.toArray ++ Array.replicate (fn.ntmps - vs.toArray.size) undef, defers := [] } : Act) = a at X ⊢
  have X' : InvX { C0 with k0 := k, nt := fn.ntmps, sz0 := w.heap.size } { env := (d, .t (pxT px)) :: argEnv 0 args, σ := σ } (a.put (some d) (pxV px v)) w ι vis D := by
    have r1 : RepE C0.yl ι σ (hp vis w) (.t (pxT px)) (pxV px v) := by unfold RepE; exact he
    exact X.put (d := some d) (by simpa [dstOK] using g7) r1
  have hw0 : Region.wanted rr (yielded (rr :: tail).toArray a.tmps) = true := by unfold Region.wanted; rw [g3]
  have hr0 : (execOp a.eval rr).run C0.P w = .ok .recover w := by
    unfold execOp
    simp only [g1]
    simp [resolve, invoke, builtin]
  have hcs : (match recoverD (c₀ :: cs) with | some (v, cs2) => (v, cs2) | none => (.nilIface, c₀ :: cs)) = (pxV px v, pxF px v c₀ :: cs) := by
    cases px with
    | some x => simp only [modeIn] at hmode; simp only [recoverD, hmode]; rfl
    | none => simp only [modeIn] at hmode; simp only [recoverD, hmode]; rfl
  have hi := is_ok (W := { P := C0.P, nb := σ.length }) (C := { C0 with k0 := k, nt := fn.ntmps, sz0 := w.heap.size }) (ops := (rr :: tail).toArray) (nb := σ.length) (Q := fun e s => match e with | .normal => finA R .normal s | _ => False)
    (ι₀ := ι) (σ₀ := σ) (vis₀ := vis) (D₀ := D) (w₀ := w) yok_no rfl tail 1 (fun j => by simp [Nat.add_comm 1 j]) h6a X' (UpN.refl (Nat.le_refl _) ι vis w) (UpD.refl _ _) h
  have hsz1 : (rr :: tail).toArray.size - 1 = tail.length := by simp
  refine wpSIn_region_head (o := rr) rfl hw0 hr0 rfl (fun _ _ => trivial) (v := pxV px v) (cs1 := pxF px v c₀ :: cs) rfl hcs (by rw [g2, hsz1]; exact hi) ?_
  rintro e a' w' ⟨s', ι', vis', D', ex, hx, hq, X', U, ud⟩
  have hret : (s'.df = [] ∧ s'.k = 0 ∧ R s'.σ) → a'.defers = [] ∧ ∃ u', (pxF px v c₀ :: cs) = { c₀ with mode := u' } :: cs ∧ ∃ v', (results fn a'.tmps).run C0.P w' = .ok v' w' ∧
      ((∃ r, Ending.returned v' = .returned r) ∧ u' = (modeOut px v) ∧ ∃ σ' ι' vis' D', R σ' ∧ Mem C0 k σ' w' ι' vis' D' ∧ Up ι σ vis w ι' σ' vis' w' ∧ UpD D w D') := by
    rintro ⟨q1, q2, q5⟩
    refine ⟨by have := X'.df; rw [q1] at this; exact this, (modeOut px v), ?_, .tuple #[], ?_, ⟨_, rfl⟩, rfl, s'.σ, ι', vis', D', q5, ?_, ?_, ud⟩
    · cases px with
      | some x => rfl
      | none => simp only [modeIn] at hmode; simp only [pxF, modeOut, ← hmode]
    · rw [results_eq, h5]; simp
    · have M' := X'.mem
      rw [q2] at M'
      exact ⟨M'.glob, M'.inj, M'.own, M'.visLt, M'.DLt, M'.visD, M'.objs, M'.hist⟩
    · exact U.up
  cases ex <;> first | exact hq.elim | skip
  cases e <;> first | exact hx.elim | skip
  exact hret hq

/-! ### In the form that simp walks -/
theorem ADef.walkB {P : Program} {f nt d na : Nat} {is : List AI} {args : List E} {σ : List AO} {px : Option T} {R : List AO → Prop} (hf : FnB P f nt d is na)
    (h : @wpIsL { P := P, nb := σ.length } ⟨fun s => @finAL ⟨R⟩ .normal s⟩ ⟨fun _ _ => False⟩ ⟨is⟩ { env := (d, .t (pxT px)) :: argEnv 0 args, σ := σ, df := [], k := 0 }) (ha : args.length = na := by rfl) : ADef P f args σ px R := ADef.introB hf ha h
end Go.Ab
