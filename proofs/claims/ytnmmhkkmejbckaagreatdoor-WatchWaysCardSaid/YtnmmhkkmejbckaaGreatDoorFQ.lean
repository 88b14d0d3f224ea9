/- Proved here: laws that the statements need (AbR3, AbR4, AbR5). No conditions but those that each law states. -/
import Derived.Test.YtnmmhkkmejbckaaGreatDoorFJ
import Derived.Test.YtnmmhkkmejbckaaGreatDoorFM

set_option linter.unusedSimpArgs false
set_option linter.unusedVariables false

/- Panics in the rounds of a range over a function. -/
namespace Go.Ab

/-! ### Of frames of functions that are there -/
/-- What code does in a frame of a function that is there. -/
def wpE (ro : Option Nat) (P : Program) (c : Code) (Q : Exit → Act → World → Prop) (a : Act) (w : World) : Prop :=
  ∀ (b : Frame) (k : List Item) (cs : List Frame), b.roundOf = ro → (P.funcs[b.fn]?).isSome = true →
    ∃ e a' w', Q e a' w' ∧ ArrivesIn (Machine.fenced P Fence.wide) P (lone (b.atR a (.code c :: k)) cs w) b k cs e a' w'

section
variable {ro : Option Nat} {P : Program} {Q : Exit → Act → World → Prop} {a : Act} {w : World}
theorem wpE_of {c : Code} (h : c.wpIn (FR ro) 0 P Q a w) : wpE ro P c Q a w := fun b k cs hb _ => h b k cs hb trivial (room_wide _)
theorem wpE_mono {c : Code} {Q' : Exit → Act → World → Prop} (h : wpE ro P c Q a w) (hq : ∀ e a w, Q e a w → Q' e a w) : wpE ro P c Q' a w :=
  fun b k cs hb hf => let ⟨e, a', w', q, r⟩ := h b k cs hb hf; ⟨e, a', w', hq _ _ _ q, r⟩
theorem wpE_seq {x y : Code} (h : wpE ro P x (Exit.then (wpE ro P y Q) Q) a w) : wpE ro P (.seq x y) Q a w := by
  intro b k cs hb hf
  have s0 : StepsIn (Machine.fenced P Fence.wide) P (lone (b.atR a (.code (.seq x y) :: k)) cs w) (lone (b.atR a (.code x :: .code y :: k)) cs w) := .one (fenced_wide P _) stepR_seq
  obtain ⟨e, a₁, w₁, hq, harr⟩ := h b (.code y :: k) cs hb hf
  cases e with
  | normal =>
    obtain ⟨e₂, a₂, w₂, hq₂, harr₂⟩ := hq b k cs hb hf
    exact ⟨e₂, a₂, w₂, hq₂, .of_steps (StepsIn.trans s0 harr) harr₂⟩
  | _ => exact ⟨_, a₁, w₁, hq, .of_steps s0 (.pass (x := .code y) rfl (fun _ _ => .inl (by simp)) harr)⟩
theorem wpE_block {id : Nat} {c : Code} (h : wpE ro P c (Exit.inBlock id Q) a w) : wpE ro P (.block id c) Q a w := by
  intro b k cs hb hf
  have s0 : StepsIn (Machine.fenced P Fence.wide) P (lone (b.atR a (.code (.block id c) :: k)) cs w) (lone (b.atR a (.code c :: .inBlock id :: k)) cs w) := .one (fenced_wide P _) stepR_block
  obtain ⟨e, a₁, w₁, hq, harr⟩ := h b (.inBlock id :: k) cs hb hf
  cases e with
  | normal => exact ⟨.normal, a₁, w₁, hq, s0.trans (StepsIn.trans harr (.one (fenced_wide P _) stepR_inBlock))⟩
  | exit id' =>
    by_cases hid : id' = id
    · simp only [Exit.inBlock, hid, if_true] at hq
      exact ⟨.normal, a₁, w₁, hq, s0.trans (harr.1 k (by simp [exitTo, hid]))⟩
    · simp only [Exit.inBlock, hid, if_false] at hq
      have hx : exitTo id' (.inBlock id :: k) = exitTo id' k := by
        have : (id == id') = false := by simp; exact fun h => hid h.symm
        simp [exitTo, this]
      exact ⟨.exit id', a₁, w₁, hq, fun k' hk => s0.trans (harr.1 k' (by rw [hx]; exact hk)),
        fun hr' hk => let ⟨k₁, h1, h2⟩ := harr.2 hr' (by rw [hx]; exact hk); ⟨k₁, h1, s0.trans h2⟩⟩
  | goto l =>
    have hx : gotoIn l (.inBlock id :: k) = gotoIn l k := by simp [gotoIn]
    exact ⟨.goto l, a₁, w₁, hq, fun k' hk => s0.trans (harr.1 k' (by rw [hx]; exact hk)),
      fun hr' hk => let ⟨k₁, h1, h2⟩ := harr.2 hr' (by rw [hx]; exact hk); ⟨k₁, h1, s0.trans h2⟩⟩
  | ret => exact ⟨.ret, a₁, w₁, hq, .of_steps s0 harr⟩
  | panic ch => exact ⟨.panic ch, a₁, w₁, hq, .of_steps s0 harr⟩
  | outgrown => exact ⟨.outgrown, a₁, w₁, hq, .of_steps s0 harr⟩

theorem callsE_of_wp_marks {f : FuncId} {fn : Func} {c : Code} {args : Array Value} {w : World} {R : Ending → World → Prop}
    (hf : P.funcs[f]? = some fn) (hb : fn.body = some c)
    (h : wpE none P c (bodyPostM Fence.wide 0 P fn R) { tmps := args ++ Array.replicate (fn.ntmps - args.size) undef, defers := [] } w) : CallsIn Fence.wide 0 P f args w R := by
  refine ⟨trivial, fun cs hr => ?_⟩
  let b : Frame := { (default : Frame) with fn := f, kind := .normal, roundOf := none }
  have henter : Frame.enter P f args .normal = b.atR { tmps := args ++ Array.replicate (fn.ntmps - args.size) undef, defers := [] } [.code c] := by
    simp [Frame.enter, Frame.atR, hf, hb, b]
  obtain ⟨e, a', w', hq, harr⟩ := h b [] cs rfl (by show (P.funcs[f]?).isSome = true; rw [hf]; rfl)
  rw [← henter] at harr
  have out : ∀ (u : FrameMode) (todo : List Item), LeavesInM Fence.wide 0 P fn a'.tmps R a'.defers u w' → StepsIn (Machine.fenced P Fence.wide) P (lone (Frame.enter P f args .normal) cs w) (lone { b.atR a' todo with mode := u } cs w') →
      ∃ e w' fr, R e w' ∧ ComesIn (Machine.fenced P Fence.wide) P (lone (Frame.enter P f args .normal) cs w) (lone fr cs w') e ∧ fr.fn = f ∧ fr.leaving P w' e := by
    intro u todo hl hs
    obtain ⟨e', w'', fr', hR, hs', hfn, hlv⟩ := leaves_stepsInM a'.defers u w' { b.atR a' todo with mode := u } cs rfl rfl rfl hf rfl trivial hr hl
    exact ⟨e', w'', fr', hR, ComesIn.of_steps hs hs', hfn, hlv⟩
  cases e with
  | normal => exact out .returning [] hq (StepsIn.trans harr (.one (fenced_wide P _) (stepR_end rfl)))
  | ret =>
    obtain ⟨todo, hs₀⟩ := harr.1 rfl
    exact out .returning todo hq hs₀
  | panic chain =>
    obtain ⟨todo, hs₀⟩ := harr
    exact out (.panicking chain) todo hq hs₀
  | exit id => exact hq.elim
  | goto l => exact hq.elim
  | outgrown => exact ⟨.outgrown, w', b, hq, harr.resolve_left (by simp [b]), rfl, trivial⟩

/-! ### A round that panics -/
/-- What is asked at a round's end. -/
def roundPostP (P : Program) (l : Nat) (R : Ending → World → Prop) : Exit → Act → World → Prop
  | .normal, _, w => ∃ v w', (Instr.endRound l none).run P w = .ok v w' ∧ R (.returned v) w'
  | .panic chain, a, w => a.defers = [] ∧ R (.panicked chain) w
  | _, _, _ => False
theorem roundE {l : Nat} {f : FuncId} {tmps : Array Value} {assign body : Code} {R : Ending → World → Prop} (hf : (P.funcs[f]?).isSome = true)
    (h : assign.wpIn (FR (some l)) 0 P (Exit.then (fun a₁ w₁ => ∃ w₂, (Instr.beginRound l).run P w₁ = .ok () w₂ ∧ body.wpIn (FR (some l)) 0 P (roundPostP P l R) a₁ w₂) (fun _ _ _ => False)) { tmps := tmps, defers := [] } w) :
    RoundIn Fence.wide 0 P l f tmps assign body w R := by
  refine ⟨trivial, fun c cs hr => ?_⟩
  let b : Frame := { (default : Frame) with fn := f, kind := .normal, roundOf := some l }
  have hb0 : Frame.round l f tmps assign body .normal = b.atR { tmps := tmps, defers := [] } [.code assign, .beginRound, .code body] := by
    simp [Frame.round, Frame.atR, b]
  obtain ⟨e, a₁, w₁, hq, harr⟩ := h b [.beginRound, .code body] (c :: cs) rfl trivial (room_wide _)
  rw [← hb0] at harr
  cases e with
  | normal =>
    obtain ⟨w₂, hbr, hbody⟩ := hq
    have s1 : StepsIn (Machine.fenced P Fence.wide) P (lone (b.atR a₁ [.beginRound, .code body]) (c :: cs) w₁) (lone (b.atR a₁ [.code body]) (c :: cs) w₂) := .one (fenced_wide P _) (stepR_beginRound rfl hbr)
    obtain ⟨e₂, a₂, w₃, hq₂, harr₂⟩ := hbody b [] (c :: cs) rfl trivial (room_wide _)
    cases e₂ with
    | normal =>
      obtain ⟨v, w₄, hend, hR⟩ := hq₂
      exact ⟨.returned v, w₄, hR, (StepsIn.trans harr s1).trans (StepsIn.trans harr₂ (.one (fenced_wide P _) (stepR_round_end rfl rfl hend)))⟩
    | panic chain =>
      obtain ⟨hd, hR⟩ := hq₂
      obtain ⟨todo, hs⟩ := harr₂
      obtain ⟨fn, hfn⟩ := Option.isSome_iff_exists.1 hf
      have hlv : Frame.leaving P { b.atR a₂ todo with mode := .panicking chain } w₃ (.panicked chain) := ⟨rfl, hd, fn, hfn⟩
      exact ⟨.panicked chain, w₃, hR, (StepsIn.trans harr s1).trans (StepsIn.trans hs (.one (fenced_wide P _) (step_leave_panicked hlv)))⟩
    | _ => exact hq₂.elim
  | _ => exact hq.elim

/-- The statement, in a frame of a function that is there. -/
theorem wpE_rangeFunc {g : Operand} {ps : Array Tmp} {assign body : Code}
    (h : ∀ fn, (P.funcs[fn]?).isSome = true → ∃ (l : Nat) (mark : List Deferred) (w₁ : World) (d : Deferred) (w₁' : World) (f : FuncId) (args : Array Value) (w₂ : World),
      (Instr.enterLoop fn a.tmps ps assign body none).run P w = .ok (l, mark) w₁ ∧ (resolve a.eval (rangeCall g l) 0).run P w₁ = .ok d w₁' ∧ (invoke d.target d.args).run P w₁' = .ok (.enter f args) w₂ ∧
      CallsIn Fence.wide 0 P f args w₂ (rangePost Fence.wide 0 P l Q { a with defers := mark ++ a.defers })) : wpE none P (.rangeFunc g ps assign body) Q a w := by
  intro b k cs hro hb
  obtain ⟨l, mark, w₁, d, w₁', f, args, w₂, he, hres, hinv, _, hcall⟩ := h b.fn hb
  rw [← hro] at he
  have henter := stepR_rangeFunc (P := P) (b := b) (a := a) (k := k) (cs := cs) (w := w) he hres hinv
  obtain ⟨e, w₃, fr, hR, hsteps, hfn, hleave⟩ := hcall (b.atR { a with defers := mark ++ a.defers } (.inRangeFunc l :: k) :: cs) (room_wide _)
  cases e with
  | outgrown =>
    obtain ⟨a₀, w₀, hq⟩ := hR
    exact ⟨.outgrown, a₀, w₀, hq, .inr (Outgrown.of_steps (.one henter) hsteps)⟩
  | returned v =>
    obtain ⟨jump, w₄, hend, hj⟩ := hR
    have sback : StepsIn (Machine.fenced P Fence.wide) P (lone (b.atR a (.code (.rangeFunc g ps assign body) :: k)) cs w) (lone (b.atR { a with defers := mark ++ a.defers } ((jump.map Item.code).toList ++ k)) cs w₄) := by
      refine .head (fenced_wide P _) henter (StepsIn.trans hsteps (.head (fenced_wide P _) ?_ (.one (fenced_wide P _) (stepR_endRangeFunc hend))))
      rw [← finish_atR_inRangeFunc l v]; exact step_leave_returned hleave
    cases jump with
    | none => exact ⟨.normal, _, w₄, hj, sback⟩
    | some c =>
      obtain ⟨e', a'', w₅, hq, harr⟩ := hj b k cs hro trivial (room_wide _)
      exact ⟨e', a'', w₅, hq, .of_steps sback harr⟩
  | panicked chain =>
    refine ⟨.panic chain, _, w₃, hR, .inRangeFunc l :: k, .head (fenced_wide P _) henter (StepsIn.trans hsteps (.one (fenced_wide P _) ?_))⟩
    rw [← Frame.raise_atR]; exact step_leave_panicked hleave
end
end Go.Ab

/- Panics in the rounds of a range over a function: a round, and the generator's view. -/
namespace Go.Ab

/-- One round of a range over a function; S: it may panic. -/
theorem round_okP {asg bd : Code} (ha : Sound asg) (hb : Sound bd) {C : Cx} {P : Program} (hP : P = C.P) {nb p : Nat} {aa ab : AC} (hca : compC C.P C.nt [] [] asg = some aa) (hcb : compC C.P C.nt [] [] bd = some ab) (hpn : p < C.nt) {l : Nat} {rec_ : Loop} (hrec : rec_.state = .ready) (hpend : rec_.pending = none)
    {env0 : List (Nat × E)} {k : Nat} {σ : List AO} {v : Value} {J : List AO → Prop} {px : T} (hflat : px.flat = true) {S : List AO → Prop} {tmps : Array Value} {w : World} {ι : Pl} {vis D Dg : Nat → Prop} (hsz : C.sz0 ≤ w.heap.size) (M : Mem C (C.k0 + k) σ w ι vis D) (ht : tmps.size = C.nt)
    (henv : ∀ i, RepE C.yl ι σ (hp vis w) (lk env0 i) (tmps.getD i undef)) (hnb : nb ≤ σ.length) (hl : w.heap[l]? = some (.loop rec_)) (hDl : Dg l) (hl1 : ¬ vis l) (hl2 : ¬ D l) (hl3 : ∀ i c, ι i ≠ some (l, c)) (hlt : l < w.heap.size)
    (hown : ∀ i b c, ι i = some (b, c) → Dg b) (hD : ∀ b, D b → Dg b)
    (h : awp { P := P, nb := nb, ro := some l } aa (fun e s => match e with | .normal => awp { P := P, nb := nb, ro := some l } ab (fun e s' => match e with | .normal => s'.df = [] ∧ s'.k = k ∧ J s'.σ | .pan x => x = px ∧ s'.df = [] ∧ s'.k = k ∧ S s'.σ | _ => False) s | _ => False) { env := (p, .t (T.ofV v)) :: env0, σ := σ, df := [], k := k }) (fn : FuncId) (hfn : (C.P.funcs[fn]?).isSome = true) :
    RoundIn Fence.wide 0 C.P l fn (tmps.setIfInBounds p v) asg bd w fun e w' => ∃ σ' ι' vis' D' rc, ((e = .returned (.bool true) ∧ J σ' ∧ rc = rec_) ∨ (PanV px e ∧ S σ' ∧ rc = { rec_ with state := .busy })) ∧ Mem C (C.k0 + k) σ' w' ι' vis' D' ∧ UpN nb ι σ vis w ι' σ' vis' w' ∧ UpD D w D' ∧
      w'.heap[l]? = some (.loop rc) ∧ (∀ b, b < w.heap.size → ¬ Dg b → w'.heap[b]? = w.heap[b]?) ∧ ¬ vis' l ∧ ¬ D' l ∧ ∀ i c, ι' i ≠ some (l, c) := by
  -- what is kept in the first place: all that is none of the loop's own
  let K : Nat → Prop := fun b => b < w.heap.size ∧ ¬ vis b ∧ (∀ i c, ι i ≠ some (b, c)) ∧ ¬ D b
  have hKl : K l := ⟨hlt, hl1, hl3, hl2⟩
  have MH := M.hideIn (K := K) fun b h => ⟨h.1, h.2.1, h.2.2.1⟩
  have X0 : InvX (C.hide D K w) { env := (p, .t (T.ofV v)) :: env0, σ := σ, df := [], k := k } { tmps := tmps.setIfInBounds p v, defers := [] } w ι vis (fun b => D b ∨ K b) := by
    refine ⟨MH, (Array.size_setIfInBounds).trans ht, fun i => ?_, rfl⟩
    simp only [lk]
    split
    · rename_i e
      subst e
      unfold RepE
      have := T.ofV_rep (h := Ab.hp vis w) v
      simpa [ht, hpn] using this
    · rename_i e
      have h0 := henv i
      have h1 : (tmps.setIfInBounds p v).getD i undef = tmps.getD i undef := by simp [Array.getElem?_setIfInBounds_ne (fun h => e h.symm)]
      show RepE C.yl ι σ (Ab.hp vis w) (lk env0 i) ((tmps.setIfInBounds p v).getD i undef)
      rw [h1]
      exact h0
  have hyn : ∀ {C : Cx} {vis₀ : Nat → Prop} {w₀ : World}, YOK C vis₀ w₀ fun _ _ => False := fun _ _ _ _ _ _ h => h.elim
  have hs1 := ha { P := P, nb := nb, ro := some l } (C.hide D K w) ι σ vis (fun b => D b ∨ K b) w [] hyn hP hsz aa hca _ _ _ w ι vis _ X0 (UpN.refl hnb _ _ _) (UpD.refl _ _) h
  refine roundE hfn (wpIn_mono hs1 fun e a1 w1 ⟨s1, ι1, vis1, D1, ex, hx, hq, X1, U1, ud1⟩ => ?_)
  cases e <;> cases ex <;> first | exact hx.elim | exact hq.elim | skip
  -- the round begins
  obtain ⟨D2, M2, ud2, hsub2, hK2⟩ := X1.mem.hideOut
  have hl1' : w1.heap[l]? = some (.loop rec_) := by rw [(hK2 l hKl).2]; exact hl
  have hlt1 : l < w1.heap.size := (Array.getElem?_eq_some_iff.1 hl1').1
  have hv1 : ¬ vis1 l := fun h => X1.mem.visD l h (hK2 l hKl).1
  have ho1 : ∀ i c, ι1 i ≠ some (l, c) := fun i c h => (X1.mem.own i l c h).2.2.2 (hK2 l hKl).1
  have hd1 : ¬ D2 l := fun h => by
    rcases ud2.2 l h with h | h
    · exact hl2 h
    · omega
  refine ⟨_, run_beginRound hl1' hrec, ?_⟩
  obtain ⟨M3, hle3⟩ := M2.putOther (.loop { rec_ with state := .busy }) hv1 hd1 ho1
  let w2 := w1.putObj l (.loop { rec_ with state := .busy })
  let K3 : Nat → Prop := K
  have hK3 : ∀ b, K b → b < w2.heap.size ∧ ¬ vis1 b ∧ ∀ i c, ι1 i ≠ some (b, c) := fun b h => ⟨by have := h.1; have := U1.size; simp [w2]; omega, fun h' => X1.mem.visD b h' (hK2 b h).1, fun i c h' => (X1.mem.own i b c h').2.2.2 (hK2 b h).1⟩
  have MH2 := M3.hideIn (K := K) hK3
  have X2 : InvX (C.hide D2 K w2) s1 a1 w2 ι1 vis1 (fun b => D2 b ∨ K b) := ⟨MH2, X1.sz, fun i => (X1.env i).mono (Goes.refl _ _) hle3, RepDs.mono (Goes.refl _ _) hle3 _ _ X1.df⟩
  have hsz2 : C.sz0 ≤ w2.heap.size := by have := U1.size; simp [w2]; omega
  have hs2 := hb { P := P, nb := nb, ro := some l } (C.hide D2 K w2) ι1 s1.σ vis1 (fun b => D2 b ∨ K b) w2 [] hyn hP hsz2 ab hcb _ _ _ w2 ι1 vis1 _ X2 (UpN.refl U1.len' _ _ _) (UpD.refl _ _) hq
  refine wpIn_mono hs2 fun e a3 w3 ⟨s3, ι3, vis3, D3, ex, hx, hq, X3, U3, ud3⟩ => ?_
  obtain ⟨D4, M4, ud4, hsub4, hK4⟩ := X3.mem.hideOut
  have hl2' : w2.heap[l]? = some (.loop { rec_ with state := .busy }) := World.putObj_heap_same hlt1
  have hl3' : w3.heap[l]? = some (.loop { rec_ with state := .busy }) := by rw [(hK4 l hKl).2]; exact hl2'
  have hlt3 : l < w3.heap.size := (Array.getElem?_eq_some_iff.1 hl3').1
  have hv3 : ¬ vis3 l := fun h => X3.mem.visD l h (hK4 l hKl).1
  have ho3 : ∀ i c, ι3 i ≠ some (l, c) := fun i c h => (X3.mem.own i l c h).2.2.2 (hK4 l hKl).1
  have hs12 : w1.heap.size = w2.heap.size := by simp [w2]
  have hd3 : ¬ D4 l := fun h => by
    rcases ud4.2 l h with h | h
    · exact hd1 h
    · omega
  have ends : ∀ rc : Loop, s3.k = k → Mem C (C.k0 + k) s3.σ (w3.putObj l (.loop rc)) ι3 vis3 D4 ∧ UpN nb ι σ vis w ι3 s3.σ vis3 (w3.putObj l (.loop rc)) ∧ UpD D w D4 ∧
      (w3.putObj l (.loop rc)).heap[l]? = some (.loop rc) ∧ (∀ b, b < w.heap.size → ¬ Dg b → (w3.putObj l (.loop rc)).heap[b]? = w.heap[b]?) ∧ ¬ vis3 l ∧ ¬ D4 l ∧ ∀ i c, ι3 i ≠ some (l, c) := fun rc hk3 => by
    obtain ⟨M5, hle5⟩ := M4.putOther (.loop rc) hv3 hd3 ho3
    refine ⟨?_, ?_, ?_, World.putObj_heap_same hlt3, ?_, hv3, hd3, ho3⟩
    · rw [← hk3]; exact M5
    · have u2 : UpN nb ι1 s1.σ vis1 w1 ι1 s1.σ vis1 w2 := ⟨U1.len', U1.len', fun _ _ h => ⟨h, rfl⟩, fun _ n _ h => ⟨n, h, Nat.le_refl _, fun _ => rfl⟩, hle3, by omega, fun i _ c h => .inl ⟨i, c, h⟩, fun _ h => .inl h⟩
      have u4 : UpN nb ι3 s3.σ vis3 w3 ι3 s3.σ vis3 (w3.putObj l (.loop rc)) := ⟨U3.len', U3.len', fun _ _ h => ⟨h, rfl⟩, fun _ n _ h => ⟨n, h, Nat.le_refl _, fun _ => rfl⟩, hle5, by simp, fun i _ c h => .inl ⟨i, c, h⟩, fun _ h => .inl h⟩
      exact ((U1.trans u2).trans U3).trans u4
    · exact ud2.trans ud4 (by have := U1.size; omega)
    · intro b hb hng
      have hbl : b ≠ l := fun e => hng (e ▸ hDl)
      rw [World.putObj_heap_other hbl]
      by_cases hvb : vis b
      · obtain ⟨o, ho⟩ : ∃ o, w.heap[b]? = some o := ⟨_, Array.getElem?_eq_getElem hb⟩
        obtain ⟨q1, q2⟩ := U1.le b o ⟨hvb, ho⟩
        obtain ⟨q3, q4⟩ := hle3 b o ⟨q1, q2⟩
        rw [ho, (U3.le b o ⟨q3, q4⟩).2]
      · have hkb : K b := ⟨hb, hvb, fun i c h => hng (hown i b c h), fun h => hng (hD b h)⟩
        rw [(hK4 b hkb).2]
        show (w1.putObj l _).heap[b]? = _
        rw [World.putObj_heap_other hbl, (hK2 b hkb).2]
  have endsB : s3.k = k → Mem C (C.k0 + k) s3.σ w3 ι3 vis3 D4 ∧ UpN nb ι σ vis w ι3 s3.σ vis3 w3 ∧ UpD D w D4 ∧
      w3.heap[l]? = some (.loop { rec_ with state := .busy }) ∧ (∀ b, b < w.heap.size → ¬ Dg b → w3.heap[b]? = w.heap[b]?) ∧ ¬ vis3 l ∧ ¬ D4 l ∧ ∀ i c, ι3 i ≠ some (l, c) := fun hk3 => by
    refine ⟨?_, ?_, ?_, hl3', ?_, hv3, hd3, ho3⟩
    · rw [← hk3]; exact M4
    · have u2 : UpN nb ι1 s1.σ vis1 w1 ι1 s1.σ vis1 w2 := ⟨U1.len', U1.len', fun _ _ h => ⟨h, rfl⟩, fun _ n _ h => ⟨n, h, Nat.le_refl _, fun _ => rfl⟩, hle3, by omega, fun i _ c h => .inl ⟨i, c, h⟩, fun _ h => .inl h⟩
      exact (U1.trans u2).trans U3
    · exact ud2.trans ud4 (by have := U1.size; omega)
    · intro b hb hng
      have hbl : b ≠ l := fun e => hng (e ▸ hDl)
      by_cases hvb : vis b
      · obtain ⟨o, ho⟩ : ∃ o, w.heap[b]? = some o := ⟨_, Array.getElem?_eq_getElem hb⟩
        obtain ⟨q1, q2⟩ := U1.le b o ⟨hvb, ho⟩
        obtain ⟨q3, q4⟩ := hle3 b o ⟨q1, q2⟩
        rw [ho, (U3.le b o ⟨q3, q4⟩).2]
      · have hkb : K b := ⟨hb, hvb, fun i c h => hng (hown i b c h), fun h => hng (hD b h)⟩
        rw [(hK4 b hkb).2]
        show (w1.putObj l _).heap[b]? = _
        rw [World.putObj_heap_other hbl, (hK2 b hkb).2]
  cases e <;> cases ex <;> first | exact hx.elim | exact hq.elim | skip
  · obtain ⟨hdf, hk3, hJ⟩ := hq
    have hrec4 : ({ state := .ready, pending := none, fn := rec_.fn, tmps := rec_.tmps, params := rec_.params, assign := rec_.assign, body := rec_.body, defers := rec_.defers } : Loop) = rec_ := by
      cases rec_; simp only at hrec hpend; subst hrec; subst hpend; rfl
    have hend : (Instr.endRound l none).run C.P w3 = .ok (.bool true) (w3.putObj l (.loop rec_)) := by
      rw [run_endRound none hl3']
      simp only [Option.isNone_none, if_true]
      rw [hrec4]
    exact ⟨_, _, hend, s3.σ, ι3, vis3, D4, rec_, .inl ⟨rfl, hJ, rfl⟩, ends rec_ hk3⟩
  · obtain ⟨rfl, hdf, hk3, hS⟩ := hq
    obtain ⟨v, rfl, rv⟩ := hx
    have hd0 : a3.defers = [] := by have := X3.df; rw [hdf] at this; exact this
    exact ⟨hd0, s3.σ, ι3, vis3, D4, _, .inr ⟨⟨v, rfl, fun h => RepT.flat _ _ hflat rv⟩, hS, rfl⟩, endsB hk3⟩

/-- The generator's place: behind k rounds, of n; or a round has panicked. -/
def genCxP (C : Cx) (k1 n0 : Nat) (ι0 : Pl) (σ0 : List AO) (vis1 : Nat → Prop) (w1 : World) (D0 : Nat → Prop) (inv : Nat → List AO → Prop) (S : List AO → Prop) (n : Nat) (l : Nat) (rec_ : Loop) : Cx :=
  { C with
    yl := l
    k0 := 0
    hist := fun k Dg wx => (k ≤ n ∧ ∃ σ ι vis D, HR C k1 n0 ι0 σ0 vis1 w1 D0 (inv k) l rec_ Dg wx σ ι vis D) ∨
      (k = n + 2 ∧ ∃ σ ι vis D, HR C k1 n0 ι0 σ0 vis1 w1 D0 S l { rec_ with state := .busy } Dg wx σ ι vis D)
    keep := fun k Dg wx wy h hb hs ho ht hout => h.imp (fun ⟨hk, σ, ι, vis, D, h⟩ => ⟨hk, σ, ι, vis, D, h.keep hb hs ho ht hout⟩) fun ⟨hk, σ, ι, vis, D, h⟩ => ⟨hk, σ, ι, vis, D, h.keep hb hs ho ht hout⟩ }

theorem gen_yokP {asg bd : Code} (ha : Sound asg) (hb : Sound bd) {C : Cx} {P : Program} (hP : P = C.P) {p : Nat} {aa ab : AC} (hca : compC C.P C.nt [] [] asg = some aa) (hcb : compC C.P C.nt [] [] bd = some ab) (hpn : p < C.nt)
    {l k n0 : Nat} {ι0 : Pl} {σ0 : List AO} {vis1 : Nat → Prop} {w1 : World} {D0 : Nat → Prop} {inv : Nat → List AO → Prop} {px : T} (hflat : px.flat = true) {S : List AO → Prop} {L : List Value} {env0 : List (Nat × E)} {tmps : Array Value} {fn df : Nat}
    (hfn : (C.P.funcs[fn]?).isSome = true) (hn0 : n0 = σ0.length) (hsz : C.sz0 ≤ w1.heap.size) (ht : tmps.size = C.nt) (henv : ∀ i, RepE C.yl ι0 σ0 (hp vis1 w1) (lk env0 i) (tmps.getD i undef)) (hvlt : ∀ b, vis1 b → b < w1.heap.size)
    (hround : ∀ j v σ, L[j]? = some v → inv j σ → awp { P := P, nb := n0, ro := some l } aa
        (fun e s1 => match e with | .normal => awp { P := P, nb := n0, ro := some l } ab (fun e s' => match e with | .normal => s'.df = [] ∧ s'.k = k ∧ ∃ kp', gcOK kp' s'.σ = true ∧ keepsBase n0 kp' = true ∧ inv (j + 1) (σgc kp' s'.σ 12) | .pan x => x = px ∧ s'.df = [] ∧ s'.k = k ∧ ∃ kp', gcOK kp' s'.σ = true ∧ keepsBase n0 kp' = true ∧ S (σgc kp' s'.σ 12) | _ => False) s1 | _ => False)
        { env := (p, .t (T.ofV v)) :: env0, σ := σ, df := [], k := k }) :
    YOK (genCxP C (C.k0 + k) n0 ι0 σ0 vis1 w1 D0 inv S L.length l { state := .ready, pending := none, fn := fn, tmps := tmps, params := #[p], assign := asg, body := bd, defers := df }) vis1 w1 (fun j v => L[j]? = some v) none (some (L.length + 2, px)) := by
  intro j Dg wy v hh hv1 hL
  have hjl := (List.getElem?_eq_some_iff.1 hL).1
  have hh' : ∃ σ ι vis D, HR C (C.k0 + k) n0 ι0 σ0 vis1 w1 D0 (inv j) l { state := .ready, pending := none, fn := fn, tmps := tmps, params := #[p], assign := asg, body := bd, defers := df } Dg wy σ ι vis D := by
    rcases hh with ⟨_, hh⟩ | ⟨hh, _⟩
    · have e : (genCxP C (C.k0 + k) n0 ι0 σ0 vis1 w1 D0 inv S L.length l { state := .ready, pending := none, fn := fn, tmps := tmps, params := #[p], assign := asg, body := bd, defers := df }).k0 + j = j := Nat.zero_add j
      rw [e] at hh
      exact hh
    · have e : (genCxP C (C.k0 + k) n0 ι0 σ0 vis1 w1 D0 inv S L.length l { state := .ready, pending := none, fn := fn, tmps := tmps, params := #[p], assign := asg, body := bd, defers := df }).k0 + j = j := Nat.zero_add j
      rw [e] at hh
      omega
  obtain ⟨σ, ι, vis, D, h⟩ := hh'
  obtain ⟨M, U⟩ := h.mem wy (fun _ _ => rfl) hv1 (Nat.le_refl _) rfl rfl rfl
  have g : Goes ι0 σ0 ι σ := (show UpN σ0.length ι0 σ0 vis1 w1 ι σ vis wy from hn0 ▸ U).up.goes
  refine ⟨fn, tmps.setIfInBounds p v, asg, bd, ?_, ?_⟩
  · show (Instr.yield l #[v]).run C.P wy = _
    rw [run_yield h.loop (by simp)]
    simp
    rfl
  · refine (round_okP (C := C) ha hb hP hca hcb hpn rfl rfl hflat (Nat.le_trans hsz h.size) M ht (fun i => (henv i).mono g U.le) U.len' h.loop h.dl h.out.1 h.out.2.1 h.out.2.2 (h.lt l h.dl) h.own h.sub
      (J := fun σ => ∃ kp', gcOK kp' σ = true ∧ keepsBase n0 kp' = true ∧ inv (j + 1) (σgc kp' σ 12)) (S := fun σ => ∃ kp', gcOK kp' σ = true ∧ keepsBase n0 kp' = true ∧ S (σgc kp' σ 12)) (hround j v σ hL h.inv) fn hfn).mono ?_
    intro e w' ⟨σ', ι', vis', D', rc, hend, M', U', ud', hl', hun, hv', hd', ho'⟩
    have key : ∀ (kp' : List Nat) (J : List AO → Prop), gcOK kp' σ' = true → keepsBase n0 kp' = true → J (σgc kp' σ' 12) → ∃ D'', UpD Dg wy D'' ∧ (∀ b, b < wy.heap.size → ¬ Dg b → w'.heap[b]? = wy.heap[b]?) ∧ wy.heap.size ≤ w'.heap.size ∧ (∀ b, D'' b → b < w'.heap.size) ∧
        ∃ σ ι vis D, HR C (C.k0 + k) n0 ι0 σ0 vis1 w1 D0 J l rc D'' w' σ ι vis D := fun kp' J hk1 hk2 hinv => by
      have hgc : ∀ i b c, gcPl kp' ι' i = some (b, c) → ∃ i', ι' i' = some (b, c) := fun i b c hi => by
        obtain ⟨id, _, h2⟩ := Option.bind_eq_some_iff.1 hi
        exact ⟨id, h2⟩
      have hvg : ∀ b, gcVis kp' ι' vis' b → vis' b ∨ ∃ i c, ι' i = some (b, c) := fun b hb => by
        rcases hb with h | ⟨i, c, h, _⟩
        · exact .inl h
        · exact .inr ⟨i, c, h⟩
      have hog : ∀ i b c, ι' i = some (b, c) → Dg b ∨ (wy.heap.size ≤ b ∧ b < w'.heap.size) := fun i b c hi => by
        rcases U'.own i b c hi with ⟨j, c', h2⟩ | h2
        · exact .inl (h.own j b c' h2)
        · exact .inr ⟨h2, (M'.own i b c hi).2.1⟩
      have hvv : ∀ b, vis' b → vis1 b ∨ Dg b ∨ (wy.heap.size ≤ b ∧ b < w'.heap.size) := fun b hb => by
        rcases U'.vis b hb with h2 | h2 | ⟨j, c, h2⟩
        · rcases h.vsub b h2 with h3 | h3
          · exact .inl h3
          · exact .inr (.inl h3)
        · exact .inr (.inr ⟨h2, M'.visLt b hb⟩)
        · exact .inr (.inl (h.own j b c h2))
      have hsub : ∀ b, D' b → Dg b ∨ (wy.heap.size ≤ b ∧ b < w'.heap.size) := fun b hb => by
        rcases ud'.2 b hb with h2 | h2
        · exact .inl (h.sub b h2)
        · exact .inr ⟨h2, M'.DLt b hb⟩
      have hvis1 : ∀ b o, vis1 b → w1.heap[b]? = some o → w'.heap[b]? = some o := fun b o h1 h2 => (U'.le b o (U.le b o ⟨h1, h2⟩)).2
      refine ⟨fun b => Dg b ∨ (wy.heap.size ≤ b ∧ b < w'.heap.size), ⟨fun b h => .inl h, fun b h => h.elim .inl fun h => .inr h.1⟩, hun, U'.size, fun b hb => ?_, σgc kp' σ' 12, gcPl kp' ι', gcVis kp' ι' vis', D', ?_⟩
      · rcases hb with h2 | h2
        · exact Nat.lt_of_lt_of_le (h.lt b h2) U'.size
        · exact h2.2
      · have MG := M'.gc 12 hk1
        have UG := (U.trans U').trans (UpN.gc (s := { env := [], σ := σ' }) (lv := []) (UpN.refl U'.len' ι' vis' w') hk2)
        refine ⟨?_, .inl h.dl, hl', ⟨?_, hd', ?_⟩, ?_, hsub, ?_, ?_, ?_, Nat.le_trans h.size U'.size, ?_⟩
        · exact hinv
        · intro h2
          rcases hvg l h2 with h3 | ⟨i, c, h3⟩
          · exact hv' h3
          · exact ho' i c h3
        · intro i c h2
          obtain ⟨i', h3⟩ := hgc i l c h2
          exact ho' i' c h3
        · intro i b c hi
          obtain ⟨i', h3⟩ := hgc i b c hi
          exact hog i' b c h3
        · intro b hb
          rcases hvg b hb with h3 | ⟨i, c, h3⟩
          · exact hvv b h3
          · exact .inr (hog i b c h3)
        · intro b hb
          rcases hb with h2 | h2
          · exact Nat.lt_of_lt_of_le (h.lt b h2) U'.size
          · exact h2.2
        · exact h.ud.trans ud' h.size
        · intro w2 q1 q2 q3 q4 q5 q6
          obtain ⟨MA, hle⟩ := MG.agree (w2 := w2) (fun b hb => by
            have keyb : vis1 b ∨ Dg b ∨ (wy.heap.size ≤ b ∧ b < w'.heap.size) := by
              rcases hb with h2 | h2 | ⟨i, c, h2⟩
              · rcases hvg b h2 with h3 | ⟨i, c, h3⟩
                · exact hvv b h3
                · exact .inr (hog i b c h3)
              · exact .inr (hsub b h2)
              · obtain ⟨i', h3⟩ := hgc i b c h2
                exact .inr (hog i' b c h3)
            rcases keyb with h2 | h2
            · obtain ⟨o, ho⟩ : ∃ o, w1.heap[b]? = some o := ⟨_, Array.getElem?_eq_getElem (hvlt b h2)⟩
              rw [q2 b o h2 ho, hvis1 b o h2 ho]
            · exact q1 b h2) q3 q4 q5 q6
          exact ⟨MA, UG.len, UG.len', UG.fix, UG.row, fun b o ⟨h2, h3⟩ => ⟨(UG.le b o ⟨h2, h3⟩).1, q2 b o h2 h3⟩, Nat.le_trans UG.size q3, UG.own, UG.vis⟩
    rcases hend with ⟨he, ⟨kp', hk1, hk2, hinv⟩, rfl⟩ | ⟨he, ⟨kp', hk1, hk2, hS⟩, rfl⟩
    · obtain ⟨D'', g1, g2, g3, g4, g5⟩ := key kp' (inv (j + 1)) hk1 hk2 hinv
      exact ⟨j + 1, .inl ⟨he, rfl⟩, D'', g1, g2, g3, g4, .inl ⟨by show 0 + (j + 1) ≤ _; omega, by show ∃ σ ι vis D, HR C (C.k0 + k) n0 ι0 σ0 vis1 w1 D0 (inv (0 + (j + 1))) l _ D'' w' σ ι vis D; rw [Nat.zero_add]; exact g5⟩⟩
    · obtain ⟨D'', g1, g2, g3, g4, g5⟩ := key kp' S hk1 hk2 hS
      exact ⟨L.length + 2, .inr (.inr ⟨px, rfl, he⟩), D'', g1, g2, g3, g4, .inr ⟨by show 0 + (L.length + 2) = _; omega, g5⟩⟩
end Go.Ab

/- Panics in the rounds of a range over a function: the statement; functions that have such a range; generators. -/
namespace Go.Ab

/-- Code in which a range over a function may panic. -/
def awpE : W → AC → (Ex → St → Prop) → St → Prop
  | W, .seq a b, Q, s => awpE W a (fun e s => match e with | .normal => awpE W b Q s | e => Q e s) s
  | W, .block id c, Q, s => awpE W c (fun e s => match e with | .exit j => if j = id then Q .normal s else Q (.exit j) s | e => Q e s) s
  | W, .rangeF g p asg body, Q, s => ∃ (f : Nat) (fs cs : List T) (L : List Value) (inv : Nat → List AO → Prop) (kp lv : List Nat) (px : T) (S : List AO → Prop),
      g.ev s.env = .t (.fn (.func f) fs cs) ∧ AGen W.P f (fs.map .t ++ .yld :: cs.map .t) L none (some (L.length + 2, px)) ∧ px.flat = true ∧ gcOK kp s.σ = true ∧ keepsBase W.nb kp = true ∧ inv 0 (σgc kp s.σ 12) ∧
      (∀ l j v σ, L[j]? = some v → inv j σ → awp { P := W.P, nb := kp.length, ro := some l } asg
        (fun e s1 => match e with | .normal => awp { P := W.P, nb := kp.length, ro := some l } body (fun e s' => match e with | .normal => s'.df = [] ∧ s'.k = s.k ∧ ∃ kp', gcOK kp' s'.σ = true ∧ keepsBase kp.length kp' = true ∧ inv (j + 1) (σgc kp' s'.σ 12) | .pan x => x = px ∧ s'.df = [] ∧ s'.k = s.k ∧ ∃ kp', gcOK kp' s'.σ = true ∧ keepsBase kp.length kp' = true ∧ S (σgc kp' s'.σ 12) | _ => False) s1 | _ => False)
        { env := (p, .t (T.ofV v)) :: (s.gc kp lv).env, σ := σ, df := [], k := s.k }) ∧
      (∀ σ, inv L.length σ → Q .normal { s.gc kp lv with σ := σ, df := .mark :: (s.gc kp lv).df }) ∧ ∀ σ, S σ → Q (.pan px) { s.gc kp lv with σ := σ, df := .mark :: (s.gc kp lv).df }
  | W, c, Q, s => awp W c Q s

/-- Compiled code is the machine's code, in frames of functions that are there. -/
def SoundE (c : Code) : Prop := ∀ (W : Ab.W) (C : Cx) (ι₀ : Pl) (σ₀ : List AO) (vis₀ D₀ : Nat → Prop) (w₀ : World) (gp : List Nat), W.ro = none → YOK C vis₀ w₀ W.yp W.sk W.pk → W.P = C.P → C.sz0 ≤ w₀.heap.size → ∀ (ac : AC), compC C.P C.nt W.pn gp c = some ac →
  ∀ (Q : Ex → St → Prop) (s : St) (a : Act) (w : World) (ι : Pl) (vis D : Nat → Prop), InvX C s a w ι vis D → UpN W.nb ι₀ σ₀ vis₀ w₀ ι s.σ vis w → UpD D₀ w₀ D → awpE W ac Q s → wpE none C.P c (Lift C W.nb ι₀ σ₀ vis₀ w₀ D₀ Q) a w

theorem range_okP {g : Operand} {ps : Array Tmp} {asg bd : Code} : SoundE (.rangeFunc g ps asg bd) := by
  have ha : Sound asg := awp_sound asg
  have hb : Sound bd := awp_sound bd
  intro W C ι₀ σ₀ vis₀ D₀ w₀ gp hro hY hP0 hsz ac hc Q s a w ι vis D X U ud h
  simp only [compC] at hc
  split at hc
  rotate_left
  · cases hc
  rename_i g' p aa ab hg hps hca hcb
  split at hc
  rotate_left
  · cases hc
  rename_i hpn
  obtain rfl : ps = #[p] := by rw [← Array.toArray_toList (xs := ps), hps]
  have go : ∀ {s : St} {ι : Pl} {vis D : Nat → Prop}, InvX C s a w ι vis D → UpN W.nb ι₀ σ₀ vis₀ w₀ ι s.σ vis w → UpD D₀ w₀ D → awpE W (.rangeF g' p aa ab) Q s → wpE none C.P (Code.rangeFunc g #[p] asg bd) (Lift C W.nb ι₀ σ₀ vis₀ w₀ D₀ Q) a w := fun {s ι vis D} X U ud h => by
    obtain ⟨f, fs, cs, L, inv, kp, lv, px, S, hgv, ⟨hpl, hgen⟩, hflat, hkp, hkb, hinv0, hround, hend, hstop⟩ := h
    have X0 := X.gc lv hkp
    have U0 : UpN W.nb ι₀ σ₀ vis₀ w₀ (gcPl kp ι) (s.gc kp lv).σ (gcVis kp ι vis) w := U.trans (UpN.gc (UpN.refl U.len' _ _ _) hkb)
    have hlen : (s.gc kp lv).σ.length = kp.length := by simp [St.gc, σgc]
    have rg := ev_ok X hg
    rw [hgv] at rg
    unfold RepE at rg
    have rg := rg.mono (gc_le kp ι vis w)
    unfold RepT at rg
    obtain ⟨us, vs, hav, r1, r2⟩ := rg
    generalize gcPl kp ι = ι0 at *
    generalize gcVis kp ι vis = vis0 at *
    refine wpE_rangeFunc fun fn hfn => ?_
    let rec_ : Loop := { state := .ready, pending := none, fn := fn, tmps := a.tmps, params := #[p], assign := asg, body := bd, defers := w.heap.size }
    let wd := w.alloc (.deferred (some []))
    let w1 := wd.alloc (.loop rec_)
    have hsz1 : w1.heap.size = w.heap.size + 2 := by simp [w1, wd]
    have hwl : w1.heap[w.heap.size + 1]? = some (.loop rec_) := by
      have := heap_alloc_new wd (.loop rec_)
      simpa [w1, wd] using this
    have hwd : w1.heap[w.heap.size]? = some (.deferred (some [])) := by
      have h1 := heap_old wd (.loop rec_) w.heap.size (by simp [wd])
      have h2 := heap_alloc_new w (.deferred (some []))
      rw [h1]; exact h2
    have hwo : ∀ b, b < w.heap.size → w1.heap[b]? = w.heap[b]? := fun b hb => by
      rw [heap_old wd (.loop rec_) b (by simp [wd]; omega), heap_old w _ b hb]
    -- the memory where the loop is entered
    obtain ⟨M1, le1⟩ := X0.mem.agree (w2 := w1) (fun b hb => hwo b (by
      rcases hb with h | h | ⟨i, c, h⟩
      · exact X0.mem.visLt b h
      · exact X0.mem.DLt b h
      · exact (X0.mem.own i b c h).2.1)) (by omega) rfl rfl rfl
    obtain ⟨M2, le2⟩ := M1.addVis (b0 := w.heap.size) (by omega) (fun i c h => absurd (X0.mem.own i _ c h).2.1 (Nat.lt_irrefl _)) (fun h => absurd (X0.mem.DLt _ h) (Nat.lt_irrefl _))
    have le12 := Hp.le_trans le1 le2
    let vis1 : Nat → Prop := fun b => vis0 b ∨ b = w.heap.size
    have hvlt : ∀ b, vis1 b → b < w1.heap.size := M2.visLt
    have hYg := gen_yokP (C := C) (P := W.P) (p := p) (l := w.heap.size + 1) (k := s.k) (n0 := kp.length) (ι0 := ι0) (σ0 := (s.gc kp lv).σ) (vis1 := vis1) (w1 := w1) (D0 := D) (inv := inv) (px := px) (S := S) (L := L) (env0 := (s.gc kp lv).env) (tmps := a.tmps) (fn := fn) (df := w.heap.size)
      ha hb hP0 hca hcb hpn hflat hfn hlen.symm (by have := U.size; omega) X.sz (fun i => (X0.env i).mono (Goes.refl _ _) le12) hvlt (fun j v σ hL hi => hround (w.heap.size + 1) j v σ hL hi)
    let Cg := genCxP C (C.k0 + s.k) kp.length ι0 (s.gc kp lv).σ vis1 w1 D inv S L.length (w.heap.size + 1) rec_
    let Dg : Nat → Prop := fun b => (∃ i c, ι0 i = some (b, c)) ∨ D b ∨ b = w.heap.size + 1
    have hDg : ∀ b, Dg b → b < w1.heap.size := fun b h => by
      rcases h with ⟨i, c, h⟩ | h | h
      · have := (X0.mem.own i b c h).2.1; omega
      · have := X0.mem.DLt b h; omega
      · omega
    have Mg : Mem Cg 0 [] w1 (fun _ => none) vis1 Dg := by
      refine ⟨M2.glob, fun i j b c c' h => (by cases h), fun i b c h => (by cases h), hvlt, hDg, fun b hb h => ?_, fun i o hi => (by simp at hi), .inl ⟨Nat.zero_le _, (s.gc kp lv).σ, ι0, vis1, D, hinv0, .inr (.inr rfl), hwl, ⟨?_, ?_, ?_⟩, fun i b c h => .inl ⟨i, c, h⟩, fun b h => .inr (.inl h), fun b h => .inl h, hDg, UpD.refl _ _, Nat.le_refl _, ?_⟩⟩
      · rcases h with ⟨i, c, h⟩ | h | h
        · exact (M2.own i b c h).2.2.1 hb
        · exact M2.visD b hb h
        · rcases hb with hb | hb
          · have := X0.mem.visLt b hb; omega
          · omega
      · intro h
        rcases h with h | h
        · have := X0.mem.visLt _ h; omega
        · omega
      · intro h; have := X0.mem.DLt _ h; omega
      · intro i c h; have := (X0.mem.own i _ c h).2.1; omega
      · intro w2 q1 q2 q3 q4 q5 q6
        obtain ⟨MA, hle⟩ := M2.agree (w2 := w2) (fun b hb => by
          rcases hb with h | h | ⟨i, c, h⟩
          · obtain ⟨o, ho⟩ : ∃ o, w1.heap[b]? = some o := ⟨_, Array.getElem?_eq_getElem (hvlt b h)⟩
            rw [q2 b o h ho, ho]
          · exact q1 b (.inr (.inl h))
          · exact q1 b (.inl ⟨i, c, h⟩)) q3 q4 q5 q6
        exact ⟨MA, by omega, by omega, fun _ _ h => ⟨h, rfl⟩, fun _ n _ h => ⟨n, h, Nat.le_refl _, fun _ => rfl⟩, hle, q3, fun i _ c h => .inl ⟨i, c, h⟩, fun _ h => .inl h⟩
    have rargs : RepEs Cg.yl (fun _ => none) [] (hp vis1 w1) (fs.map .t ++ .yld :: cs.map .t) (us ++ .func (.yield (w.heap.size + 1)) #[] #[] :: vs) := by
      refine (RepEs.map_t (r1.mono le12)).append ?_
      unfold RepEs
      exact ⟨_, _, rfl, by unfold RepE; rfl, RepEs.map_t (r2.mono le12)⟩
    have hcall := hgen Cg w1 (fun _ => none) vis1 Dg (us ++ .func (.yield (w.heap.size + 1)) #[] #[] :: vs) hP0.symm hYg Mg rargs
    rw [hP0] at hcall hpl
    obtain ⟨fn', q1, q2, q3⟩ := hpl
    obtain ⟨b', hb'⟩ := Option.isSome_iff_exists.1 q2
    simp only [beq_eq_false_iff_ne] at q3
    refine ⟨w.heap.size + 1, _, w1, { target := .fn (.func f) vs.toArray, args := us.toArray ++ #[.func (.yield (w.heap.size + 1)) #[] #[]] }, w1, f, (us ++ .func (.yield (w.heap.size + 1)) #[] #[] :: vs).toArray, w1,
      run_enterLoop_outer fn a.tmps #[p] asg bd, ?_, ?_, ?_⟩
    · have hev : ∀ y, a.eval (.const y) = y := fun _ => rfl
      simp [resolve, hav, hev, Deferred.ofValue]
    · simp [invoke, callFunc, q1, hb', q3]
    · refine hcall.mono fun e w3 ⟨m, σ3, ι3, vis3, D3, hm0, M3, u3, ud3⟩ => ?_
      -- behind the loop, whatever its record is
      have lift : ∀ (J : List AO → Prop) (rc : Loop) (x : Ex) (ex : Exit) (w5 : World), (∀ {h : Hp}, ExM h ex x) → (∀ σ, J σ → Q x { s.gc kp lv with σ := σ, df := .mark :: (s.gc kp lv).df }) →
          (∀ σ4 ι4 vis4 D4, Mem C (C.k0 + s.k) σ4 w3 ι4 vis4 D4 → ¬ vis4 (w.heap.size + 1) → ¬ D4 (w.heap.size + 1) → (∀ i c, ι4 i ≠ some (w.heap.size + 1, c)) → Mem C (C.k0 + s.k) σ4 w5 ι4 vis4 D4 ∧ (hp vis4 w3).le (hp vis4 w5)) → w3.heap.size ≤ w5.heap.size →
          (∃ σ ι vis D', HR C (C.k0 + s.k) kp.length ι0 (s.gc kp lv).σ vis1 w1 D J (w.heap.size + 1) rc D3 w3 σ ι vis D') →
          Lift C W.nb ι₀ σ₀ vis₀ w₀ D₀ Q ex { a with defers := [{ target := .collected w.heap.size, args := #[] }] ++ a.defers } w5 := by
        rintro J rc x ex w5 hxm hJQ hw5 hsz5 ⟨σ4, ι4, vis4, D4, H⟩
        obtain ⟨M4, U4⟩ := H.mem w3 (fun _ _ => rfl) (fun b o h1 h2 => (u3.le b o ⟨h1, h2⟩).2) (Nat.le_refl _) rfl rfl rfl
        obtain ⟨M5, le5⟩ := hw5 _ _ _ _ M4 H.out.1 H.out.2.1 H.out.2.2
        have g4 : Goes ι0 (s.gc kp lv).σ ι4 σ4 := (show UpN (s.gc kp lv).σ.length ι0 (s.gc kp lv).σ vis1 w1 ι4 σ4 vis4 w3 from hlen ▸ U4).up.goes
        have lef := Hp.le_trans (Hp.le_trans le12 U4.le) le5
        have uA : UpN W.nb ι0 (s.gc kp lv).σ vis0 w ι4 σ4 vis4 w5 := by
          have hnbk : W.nb ≤ kp.length := by rw [← hlen]; exact U0.len'
          refine ⟨U0.len', Nat.le_trans hnbk U4.len', fun id hi hl => U4.fix id (by omega) hl, fun id n hi hl => U4.row id n (by omega) hl, lef, ?_, fun i b c h => ?_, fun b h => ?_⟩
          · have := U4.size; omega
          · rcases U4.own i b c h with h | h
            · exact .inl h
            · exact .inr (by omega)
          · rcases U4.vis b h with h | h | h
            · rcases h with h | h
              · exact .inl h
              · exact .inr (.inl (by omega))
            · exact .inr (.inl (by omega))
            · exact .inr (.inr h)
        refine Lift.of (x := x) hxm (hJQ σ4 H.inv) ⟨M5, X.sz, fun i => (X0.env i).mono g4 lef, ?_⟩ (U0.trans uA) ?_
        · refine ⟨_, _, rfl, ⟨w.heap.size, rfl, by have := U.size; omega, ?_⟩, fun b hb e he => ?_, RepDs.mono g4 lef _ _ X0.df⟩
          · have h1 := U4.le w.heap.size _ ⟨.inr rfl, hwd⟩
            exact le5 _ _ h1
          · cases hb
            intro heq
            obtain ⟨o, ho⟩ := RepDs.target X0.df e he _ heq
            exact absurd (X0.mem.visLt _ ho.1) (Nat.lt_irrefl _)
        · exact (ud.trans (UpD.refl D w) U.size).trans ⟨H.ud.1, fun b h => by
            rcases H.ud.2 b h with h | h
            · exact .inl h
            · exact .inr (by omega)⟩ U.size
      have hh3 : (m ≤ L.length ∧ ∃ σ ι vis D', HR C (C.k0 + s.k) kp.length ι0 (s.gc kp lv).σ vis1 w1 D (inv m) (w.heap.size + 1) rec_ D3 w3 σ ι vis D') ∨
          (m = L.length + 2 ∧ ∃ σ ι vis D', HR C (C.k0 + s.k) kp.length ι0 (s.gc kp lv).σ vis1 w1 D S (w.heap.size + 1) { rec_ with state := .busy } D3 w3 σ ι vis D') := M3.hist
      rcases hm0 with ⟨⟨v, rfl⟩, hm⟩ | ⟨x, hx, v, rfl, rv⟩
      · obtain rfl : m = L.length := hm.elim id fun h => (by cases h)
        rcases hh3 with ⟨_, hh3⟩ | ⟨hml, _⟩
        · have hlp : w3.heap[w.heap.size + 1]? = some (.loop rec_) := by obtain ⟨_, _, _, _, H⟩ := hh3; exact H.loop
          have := lift (inv L.length) rec_ .normal .normal (w3.putObj (w.heap.size + 1) (.loop { rec_ with state := .exhausted })) trivial hend (fun σ4 ι4 vis4 D4 M4 a b c => M4.putOther _ a b c) (by simp) hh3
          exact ⟨none, _, run_endLoop hlp (by simp [rec_]), this⟩
        · omega
      · cases hx
        rcases hh3 with ⟨hml, _⟩ | ⟨_, hh3⟩
        · omega
        · exact lift S _ (.pan px) (.panic [{ v, recovered := false }]) w3 ⟨v, rfl, rv _⟩ hstop (fun σ4 ι4 vis4 D4 M4 _ _ _ => ⟨M4, Hp.le_refl _⟩) (Nat.le_refl _) hh3
  have hac := Option.some.inj hc
  split at hac
  · subst hac
    have h : ∃ s', Sub W.nb s s' ∧ awpE W (.rangeF g' p aa ab) Q s' := h
    obtain ⟨s', h1, h2⟩ := h
    obtain ⟨ι', vis', X', U'⟩ := h1 C a w ι vis D U.len' X
    exact go X' (U.trans U') ud h2
  · subst hac; exact go X U ud h

theorem awpE_reg {W : W} {is : List AI} {Q : Ex → St → Prop} {s : St} : awpE W (.reg is) Q s = awp W (.reg is) Q s := rfl

/-- **COMPILED CODE IS THE MACHINE's CODE**, where a range over a function may panic. -/
theorem awpE_sound : ∀ c : Code, SoundE c
  | .seq x y => by
    intro W C ι₀ σ₀ vis₀ D₀ w₀ gp hro hY hP0 hsz ac hc Q s a w ι vis D X U ud h
    simp only [compC] at hc
    split at hc
    · rename_i ax ay h1 h2
      cases hc
      refine wpE_seq (wpE_mono (awpE_sound x W C ι₀ σ₀ vis₀ D₀ w₀ gp hro hY hP0 hsz _ h1 _ _ _ _ _ _ _ X U ud h) fun e a' w' ⟨s', ι', vis', D', ex, hx, hq, X', U', ud'⟩ => ?_)
      cases e <;> cases ex <;> first | exact hx.elim | skip
      · exact awpE_sound y W C ι₀ σ₀ vis₀ D₀ w₀ gp hro hY hP0 hsz _ h2 _ _ _ _ _ _ _ X' U' ud' hq
      · exact ⟨s', ι', vis', D', _, hx, hq, X', U', ud'⟩
      · exact ⟨s', ι', vis', D', _, hx, hq, X', U', ud'⟩
      · exact ⟨s', ι', vis', D', _, hx, hq, X', U', ud'⟩
    · cases hc
  | .block id c => by
    intro W C ι₀ σ₀ vis₀ D₀ w₀ gp hro hY hP0 hsz ac hc Q s a w ι vis D X U ud h
    simp only [compC] at hc
    obtain ⟨ax, h1, rfl⟩ := Option.map_eq_some_iff.1 hc
    refine wpE_block (wpE_mono (awpE_sound c W C ι₀ σ₀ vis₀ D₀ w₀ gp hro hY hP0 hsz _ h1 _ _ _ _ _ _ _ X U ud h) fun e a' w' ⟨s', ι', vis', D', ex, hx, hq, X', U', ud'⟩ => ?_)
    cases e <;> cases ex <;> first | exact hx.elim | skip
    · exact ⟨s', ι', vis', D', _, hx, hq, X', U', ud'⟩
    · have hx' : _ = _ := hx
      subst hx'
      simp only [Exit.inBlock]
      split
      · rename_i e; simp only [e, if_true] at hq; exact ⟨s', ι', vis', D', .normal, trivial, hq, X', U', ud'⟩
      · rename_i e; simp only [e, if_false] at hq; exact ⟨s', ι', vis', D', .exit _, rfl, hq, X', U', ud'⟩
    · exact ⟨s', ι', vis', D', _, hx, hq, X', U', ud'⟩
    · exact ⟨s', ι', vis', D', _, hx, hq, X', U', ud'⟩
  | .rangeFunc _ _ _ _ => range_okP
  | .skip => by
    intro W C ι₀ σ₀ vis₀ D₀ w₀ gp hro hY hP0 hsz ac hc Q s a w ι vis D X U ud h
    have hc0 := hc
    simp only [compC] at hc; cases hc
    exact wpE_of (by have := awp_sound .skip W C ι₀ σ₀ vis₀ D₀ w₀ gp hY hP0 hsz _ hc0 _ _ _ _ _ _ _ X U ud h; rw [hro] at this; exact this)
  | .label n => by
    intro W C ι₀ σ₀ vis₀ D₀ w₀ gp hro hY hP0 hsz ac hc Q s a w ι vis D X U ud h
    have hc0 := hc
    simp only [compC] at hc; cases hc
    exact wpE_of (by have := awp_sound (.label n) W C ι₀ σ₀ vis₀ D₀ w₀ gp hY hP0 hsz _ hc0 _ _ _ _ _ _ _ X U ud h; rw [hro] at this; exact this)
  | .region id ops b => by
    intro W C ι₀ σ₀ vis₀ D₀ w₀ gp hro hY hP0 hsz ac hc Q s a w ι vis D X U ud h
    have key : awp W ac Q s := by
      cases b
      · simp only [compC] at hc
        obtain ⟨is, his, hac⟩ := Option.map_eq_some_iff.1 hc
        split at hac
        · subst hac; exact h
        · subst hac; exact h
      · simp only [compC] at hc
        split at hc
        rotate_left
        · cases hc
        split at hc
        rotate_left
        · cases hc
        split at hc
        · split at hc
          · cases hc; exact h
          · cases hc
        obtain ⟨t, ht, hac⟩ := Option.map_eq_some_iff.1 hc
        split at hac
        · subst hac; exact h
        · subst hac; exact h
    exact wpE_of (by have := awp_sound (.region id ops b) W C ι₀ σ₀ vis₀ D₀ w₀ gp hY hP0 hsz _ hc _ _ _ _ _ _ _ X U ud key; rw [hro] at this; exact this)
  | .cond x c d => by
    intro W C ι₀ σ₀ vis₀ D₀ w₀ gp hro hY hP0 hsz ac hc Q s a w ι vis D X U ud h
    have key : awp W ac Q s := by
      simp only [compC] at hc
      split at hc
      · cases hc; exact h
      · cases hc
    exact wpE_of (by have := awp_sound (.cond x c d) W C ι₀ σ₀ vis₀ D₀ w₀ gp hY hP0 hsz _ hc _ _ _ _ _ _ _ X U ud key; rw [hro] at this; exact this)
  | .loop c => by
    intro W C ι₀ σ₀ vis₀ D₀ w₀ gp hro hY hP0 hsz ac hc Q s a w ι vis D X U ud h
    have key : awp W ac Q s := by
      simp only [compC] at hc
      obtain ⟨ax, h1, rfl⟩ := Option.map_eq_some_iff.1 hc
      exact h
    exact wpE_of (by have := awp_sound (.loop c) W C ι₀ σ₀ vis₀ D₀ w₀ gp hY hP0 hsz _ hc _ _ _ _ _ _ _ X U ud key; rw [hro] at this; exact this)
  | .exit n => by
    intro W C ι₀ σ₀ vis₀ D₀ w₀ gp hro hY hP0 hsz ac hc Q s a w ι vis D X U ud h
    have hc0 := hc
    simp only [compC] at hc; cases hc
    exact wpE_of (by have := awp_sound (.exit n) W C ι₀ σ₀ vis₀ D₀ w₀ gp hY hP0 hsz _ hc0 _ _ _ _ _ _ _ X U ud h; rw [hro] at this; exact this)
  | .scope c => by
    intro W C ι₀ σ₀ vis₀ D₀ w₀ gp hro hY hP0 hsz ac hc Q s a w ι vis D X U ud h
    have key : awp W ac Q s := by
      simp only [compC] at hc
      obtain ⟨ax, h1, rfl⟩ := Option.map_eq_some_iff.1 hc
      exact h
    exact wpE_of (by have := awp_sound (.scope c) W C ι₀ σ₀ vis₀ D₀ w₀ gp hY hP0 hsz _ hc _ _ _ _ _ _ _ X U ud key; rw [hro] at this; exact this)
  | .ret => by
    intro W C ι₀ σ₀ vis₀ D₀ w₀ gp hro hY hP0 hsz ac hc Q s a w ι vis D X U ud h
    have hc0 := hc
    simp only [compC] at hc; cases hc
    exact wpE_of (by have := awp_sound .ret W C ι₀ σ₀ vis₀ D₀ w₀ gp hY hP0 hsz _ hc0 _ _ _ _ _ _ _ X U ud h; rw [hro] at this; exact this)
  | .goto _ | .refuse _ => by
    intro W C ι₀ σ₀ vis₀ D₀ w₀ gp hro hY hP0 hsz ac hc
    simp [compC] at hc

/-- **A FUNCTION's CONTRACT FROM ITS BODY**, where a range over a function may panic. -/
theorem ACall.introE {P : Program} {f nt na : Nat} {pn gp : List Nat} {rs : List RV} {ac : AC} {args : List E} {σ : List AO} {R : Out → List AO → Prop} (hf : FnC P f nt pn gp rs ac na)
    (h : awpE { P := P, nb := σ.length, pn := pn } ac (fin 0 σ.length rs R) { env := argEnv 0 args, σ := σ }) (ha : args.length = na := by rfl) : ACall P f args σ R := by
  obtain ⟨fn, c, h1, h2, h3, rfl, h4, h5, h6⟩ := hf.get
  refine ⟨⟨fn, h1, by rw [h2]; rfl, h3⟩, ?_⟩
  intro C0 k w ι vis D vs hC M0 r
  subst hC
  refine callsE_of_wp_marks h1 h2 ?_
  have X := InvX.enter (nt := fn.ntmps) M0 r (by omega)
  have hs := awpE_sound c { P := C0.P, nb := σ.length, pn := pn } { C0 with k0 := k, nt := fn.ntmps, sz0 := w.heap.size } ι σ vis D w gp rfl yok_no rfl (Nat.le_refl _) ac h6 _ _ _ w ι vis D X (UpN.refl (Nat.le_refl _) ι vis w) (UpD.refl _ _) h
  exact wpE_mono hs fun e a' w' hl => fin_leaves (kn := 0) h5 M0 (fun _ _ h => h) hl

/-- A generator whose rounds may panic. -/
theorem AGen.introP {P : Program} {f nt na : Nat} {pn gp : List Nat} {rs : List RV} {ac : AC} {args : List E} {L : List Value} {px : T} (hflat : px.flat = true) (hf : FnC P f nt pn gp rs ac na)
    (h : awp { P := P, nb := 0, pn := pn, yp := fun j v => L[j]? = some v, pk := some (L.length + 2, px) } ac (fun e s => match e with
      | .pan x => x = px ∧ s.k = L.length + 2 ∧ fin s.k 0 rs (fun o _ => o = .pan px) (.pan x) s
      | e => s.k = L.length ∧ fin s.k 0 rs (fun o _ => ∃ e, o = .ret e) e s) { env := argEnv 0 args, σ := [] }) (ha : args.length = na := by rfl) : AGen P f args L none (some (L.length + 2, px)) := by
  obtain ⟨fn, c, h1, h2, h3, rfl, h4, h5, h6⟩ := hf.get
  refine ⟨⟨fn, h1, by rw [h2]; rfl, h3⟩, ?_⟩
  intro C0 w ι vis D vs hC hY M0 r
  subst hC
  have hcall : CallsIn Fence.wide 0 C0.P f vs.toArray w (fun e w' => ∃ m R, CallPost C0 (0 + m) w ι [] vis D R e w' ∧ ((m = L.length ∧ ∀ o σ, R o σ → ∃ e, o = .ret e) ∨ (m = L.length + 2 ∧ ∀ o σ, R o σ → o = .pan px))) := by
    refine callsIn_of_wp_marks h1 h2 trivial ?_ rfl
    have X := InvX.enter (nt := fn.ntmps) M0 r (by omega)
    have hY' : YOK { C0 with k0 := 0, nt := fn.ntmps, sz0 := w.heap.size } vis w (fun j v => L[j]? = some v) none (some (L.length + 2, px)) := hY
    have hs := awp_sound c { P := C0.P, nb := 0, pn := pn, yp := fun j v => L[j]? = some v, pk := some (L.length + 2, px) } { C0 with k0 := 0, nt := fn.ntmps, sz0 := w.heap.size } ι [] vis D w gp hY' rfl (Nat.le_refl _) ac h6 _ _ _ w ι vis D X (UpN.refl (nb := 0) (σ := []) (Nat.zero_le _) ι vis w) (UpD.refl _ _) h
    refine wpIn_mono hs fun e a' w' ⟨s', ι', vis', D', ex, hx, hq, hl⟩ => ?_
    cases ex with
    | pan x =>
      obtain ⟨hx1, hk, hq⟩ := hq
      exact fin_leaves (k := 0) (kn := s'.k) h5 M0 (fun e w' hp => ⟨s'.k, _, hp, .inr ⟨hk, fun _ _ h => h⟩⟩) ⟨s', ι', vis', D', .pan x, hx, hq, hl⟩
    | normal =>
      obtain ⟨hk, hq⟩ := hq
      exact fin_leaves (k := 0) (kn := s'.k) h5 M0 (fun e w' hp => ⟨s'.k, _, hp, .inl ⟨hk, fun _ _ h => h⟩⟩) ⟨s', ι', vis', D', .normal, hx, hq, hl⟩
    | ret =>
      obtain ⟨hk, hq⟩ := hq
      exact fin_leaves (k := 0) (kn := s'.k) h5 M0 (fun e w' hp => ⟨s'.k, _, hp, .inl ⟨hk, fun _ _ h => h⟩⟩) ⟨s', ι', vis', D', .ret, hx, hq, hl⟩
    | exit i =>
      obtain ⟨hk, hq⟩ := hq
      exact hq.elim
  refine hcall.mono fun e w' ⟨m, R, ⟨o, σ', ι', vis', D', ho, hmem, hu, hud, hout⟩, hm⟩ => ?_
  rw [Nat.zero_add] at hmem
  rcases hm with ⟨hm, hR⟩ | ⟨hm, hR⟩
  · obtain ⟨x, rfl⟩ := hR o σ' ho
    refine ⟨m, σ', ι', vis', D', .inl ⟨?_, .inl hm⟩, hmem, hu, hud⟩
    cases e with
    | returned v => exact ⟨v, rfl⟩
    | panicked c => exact hout.elim
    | outgrown => exact hout.elim
  · obtain rfl := hR o σ' ho
    refine ⟨m, σ', ι', vis', D', .inr ⟨px, by rw [hm], ?_⟩, hmem, hu, hud⟩
    cases e with
    | returned v => exact hout.elim
    | panicked c =>
      obtain ⟨v, rfl, rv⟩ := hout
      exact ⟨v, rfl, fun h => RepT.flat _ _ hflat rv⟩
    | outgrown => exact hout.elim
end Go.Ab
