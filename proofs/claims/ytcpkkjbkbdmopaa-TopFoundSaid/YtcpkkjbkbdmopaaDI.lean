/- Proved here: laws that the statements need (RaW). No conditions but those that each law states. -/
import Derived.Test.YtcpkkjbkbdmopaaDE
import Derived.Test.YtcpkkjbkbdmopaaFQ

set_option linter.unusedSimpArgs false
set_option linter.unusedVariables false

/- When, of all rails: towels with no truth panic in the first round. -/
namespace Go.Proofs.Ytcpkkjbkbdmopaa
open Go Go.Ab

theorem suit3_pan (r : Ra) (hr : r.OK) (hT : isT r.tw = false) (many : Int) (h : Nat) (hh : h ≤ r.H) (a : AO) (ha : MemoY (r.f true) a) :
    ACall Try.prog 97 (E.t (vi h) :: ([.ptr (tRa r) 0, .ptr (.agg [vi many]) 0] : List T).map E.t) [a] (fun o σ' => ∃ a', (o = .pan (stp1 10) ∧ MemoY (r.f true) a') ∧ σ' = [a']) := by
  refine ACall.walk k97 ?_
  have hrd := ready_ok r hr h hh
  rw [hT, if_neg (by decide)] at hrd
  unfold c97
  unfold tRa at hrd ⊢
  unfold tw3 ra7 at hrd ⊢
  simp only [List.cons_append, List.nil_append] at hrd
  simp only [go_sem, Nat.reduceEqDiff, Nat.reduceAdd]
  refine ACallL.quiet1 hrd rfl rfl rfl ?_
  simp only [go_sem]
  exact finL_pan [0] ⟨rfl, rfl, rfl, rfl, _, ⟨rfl, ha⟩, by show [AO.gc _ _ _ a] = _; rw [memo_gc _ _ a rfl ha]⟩

/-- What is asked at the end of a generator whose rounds may panic. -/
def endP (n : Nat) (px : T) (rs : List RV) (e : Ex) (s : St) : Prop := match e with
  | .pan x => x = px ∧ s.k = n + 2 ∧ fin s.k 0 rs (fun o _ => o = .pan px) (.pan x) s
  | e => s.k = n ∧ fin s.k 0 rs (fun o _ => ∃ e, o = .ret e) e s
theorem endP_ret {n : Nat} {px : T} {rs : List RV} {s : St} (hk : s.k = n) (h : s.df = [] ∧ gcOK [] s.σ = true ∧ ∃ e, resV rs s = some e) : endP n px rs .ret s := by
  obtain ⟨h1, h2, e, h3⟩ := h
  exact ⟨hk, by rw [h1]; rfl, rfl, e, h3, [], h2, rfl, _, rfl⟩
theorem endP_normal {n : Nat} {px : T} {rs : List RV} {s : St} : endP n px rs .normal s = endP n px rs .ret s := rfl
theorem endP_pan {n : Nat} {px : T} {rs : List RV} {s : St} (hk : s.k = n + 2) (h : s.df = [] ∧ gcOK [] s.σ = true) : endP n px rs (.pan px) s := by
  obtain ⟨h1, h2⟩ := h
  exact ⟨rfl, hk, by rw [h1]; rfl, rfl, [], h2, rfl, rfl⟩

set_option maxRecDepth 8000 in
theorem ends_genP (r : Ra) (hr : r.OK) (foul : Bool) : AGen Try.prog 111 (([] : List T).map .t ++ .yld :: ([.ptr (.agg [vi 0]) 0, .ptr (.agg [yT r foul]) 0] : List T).map .t) ((hoursI r.H 0).map (.int .i64)) none (some (((hoursI r.H 0).map (Value.int .i64)).length + 2, stp1 10)) := by
  refine AGen.introP rfl k111 ?_
  show @awpL { P := Try.prog, nb := 0, pn := [], yp := fun j v => ((hoursI r.H 0).map (Value.int .i64))[j]? = some v, pk := some (((hoursI r.H 0).map (Value.int .i64)).length + 2, stp1 10) } ⟨c111⟩ ⟨fun e s => endP ((hoursI r.H 0).map (Value.int .i64)).length (stp1 10) [] e s⟩ _
  unfold c111
  obtain ⟨g1, g2, g3⟩ := hr.H
  have hat := fun {j} => hoursI_at (H := r.H) (at_ := 0) (j := j)
  have hlen := hoursI_len r.H 0
  have h4 := yT_4 r foul
  rw [g3] at h4
  generalize hoursI r.H 0 = L at *
  unfold yT
  generalize E.wks (yC r foul 0) = Y at *
  simp only [go_sem, Nat.reduceEqDiff, Nat.reduceAdd]
  refine awpL_loopK (r.H + 1) (fun i s' => s' = { env := [(4, .t (vi i)), (0, .yld), (1, .t (.ptr (.agg [vi 0]) 0)), (2, .t (.ptr (.agg [.ptr (.agg Y) 0]) 0))], σ := [], k := i }) ⟨_, Sub.gc [] [4, 0, 1, 2] rfl rfl, rfl⟩ ?_
  rintro i s' hi rfl
  simp only [go_sem, Nat.reduceEqDiff, Nat.reduceAdd, h4]
  cases g : decide ((i : Int) ≤ (r.H : Int))
  · have hie : i = r.H + 1 := by have := of_decide_eq_false g; omega
    simp only [go_sem, endP_normal]
    exact endP_ret (by show i = _; rw [List.length_map, hlen, hie]; omega) ⟨rfl, rfl, _, rfl⟩
  have hil : i < r.H + 1 := by have := of_decide_eq_true g; omega
  have hw : IntKind.i64.wrap ((i : Int) + 1) = ((i + 1 : Nat) : Int) := by rw [wrap_id (by omega) (by omega)]; omega
  have hat' := hat (j := i) (by omega)
  rw [Nat.zero_add] at hat'
  simp only [go_sem, Nat.reduceEqDiff, Bool.not_true, hw]
  refine ⟨by rw [List.getElem?_map, hat']; rfl, ?_, hil, _, Sub.gc [] [4, 0, 1, 2] rfl rfl, rfl⟩
  exact endP_pan rfl ⟨rfl, rfl⟩

theorem awpE_seq_eq {W : Ab.W} {a b : AC} {Q : Ex → St → Prop} {s : St} : awpE W (.seq a b) Q s = awpE W a (fun e s => match e with | .normal => awpE W b Q s | e => Q e s) s := rfl
theorem awpE_block_eq {W : Ab.W} {id : Nat} {c : AC} {Q : Ex → St → Prop} {s : St} : awpE W (.block id c) Q s = awpE W c (fun e s => match e with | .exit j => if j = id then Q .normal s else Q (.exit j) s | e => Q e s) s := rfl
theorem awpE_reg_eq {W : Ab.W} {is : List AI} {Q : Ex → St → Prop} {s : St} : awpE W (.reg is) Q s = @awpL W ⟨.reg is⟩ ⟨Q⟩ s := rfl

set_option maxRecDepth 8000 in
set_option maxHeartbeats 8000000 in
theorem first_pan {f k : Nat} {fs cs : List T} {G : E} {ecs : List T} {px : T} (hpx : px.flat = true) (hG : G.wk = .fn (.func f) fs cs) (L : List Int) (hL0 : 0 < L.length) (hgen : AGen Try.prog f (fs.map .t ++ .yld :: cs.map .t) (L.map (.int .i64)) none (some ((L.map (Value.int .i64)).length + 2, px))) (J : AO → Prop)
    (hs : ∀ x ∈ L, ∀ a, J a → ACall Try.prog k (E.t (vi x) :: ecs.map E.t) [a] (fun o σ' => ∃ a', (o = .pan px ∧ J a') ∧ σ' = [a']))
    (hgcJ : ∀ kp σ a, pos? kp 0 = some 0 → J a → AO.gc kp σ 12 a = a) (hrJ : ∀ ρ a, J a → AO.ren ρ a = a) (a : AO) (ha : J a) :
    ACall Try.prog 88 [G, .t (.agg [.fn (.func k) [] ecs])] [a] (fun o σ' => ∃ a', (o = .pan px ∧ J a') ∧ σ' = [a']) := by
  refine ACall.introE k88 ?_
  have hfin : ∀ (s : St) (a' : AO) (x y : E), J a' → s.df = [.mark] → s.k = 0 → s.σ = [a', .cells [.t (.fn (.func k) [] ecs)], .cells [x], .cells [y]] → fin 0 1 [.cell 4 false 1, .cell 5 false 1] (fun o σ' => ∃ a', (o = .pan px ∧ J a') ∧ σ' = [a']) (.pan px) s := by
    intro s a' x y ha' h1 h2 h3
    refine ⟨by rw [h1]; rfl, h2, [0], by rw [h3]; rfl, rfl, a', ⟨rfl, ha'⟩, ?_⟩
    rw [h3]
    show [AO.gc _ _ _ a'] = _
    rw [hgcJ _ _ a' rfl ha']
  unfold c88
  rw [awpE_seq_eq, awpE_reg_eq]
  simp only [go_sem, Nat.reduceEqDiff, Nat.reduceAdd]
  rw [awpE_seq_eq, awpE_seq_eq, awpE_reg_eq]
  simp only [go_sem, Nat.reduceEqDiff]
  rw [awpE_block_eq, awpE_seq_eq]
  refine ⟨_, Sub.wk 7, ?_⟩
  simp only [lk, Nat.reduceEqDiff, reduceIte, hG]
  refine ⟨f, fs, cs, L.map (.int .i64), fun i σ => i = 0 ∧ ∃ a, J a ∧ σ = [a, .cells [.t (.fn (.func k) [] ecs)], .cells [.t (vi 0)], .cells [.t (vb false)]], [0, 1, 2, 3], [3, 4, 5], px,
    fun σ => ∃ a, J a ∧ σ = [a, .cells [.t (.fn (.func k) [] ecs)], .cells [.t (vi 0)], .cells [.t (vb false)]], rfl, hgen, hpx, rfl, rfl, ⟨rfl, a, ha, ?_⟩, ?_, ?_, ?_⟩
  · show [AO.gc _ _ _ a, AO.cells _, AO.cells _, AO.cells _] = _
    rw [hgcJ _ _ a rfl ha]
    rfl
  · rintro l j v σ hv ⟨rfl, a, ha, rfl⟩
    rw [List.getElem?_map] at hv
    cases hx : L[0]? with
    | none => rw [hx] at hv; cases hv
    | some x =>
      rw [hx] at hv
      cases hv
      have hcall := hs x (List.mem_of_getElem? hx) a ha
      show @awpL { P := Try.prog, nb := 4, ro := some l } ⟨.reg _⟩ ⟨fun e s1 => match e with | .normal => @awpL { P := Try.prog, nb := 4, ro := some l } ⟨.block 1 _⟩ ⟨fun e s' => match e with | .normal => _ | .pan y => _ | _ => False⟩ s1 | _ => False⟩ { env := [(8, .t (vi x)), (3, .ptr 1 0), (4, .ptr 2 0), (5, .ptr 3 0)], σ := [a, .cells [.t (.fn (.func k) [] ecs)], .cells [.t (vi 0)], .cells [.t (vb false)]], df := [], k := 0 }
      simp only [go_sem, Nat.reduceEqDiff]
      refine lend1 (m := 0) hcall rfl (hrJ _ a ha).symm (by simp only [E.rens, E.ren, ren_t]) ?_
      rintro o a' ⟨rfl, ha'⟩
      have hrj := hrJ (lendR [0] 4) a' ha'
      simp only [go_sem, Nat.reduceAdd, Out.ren]
      refine ⟨[0, 1, 2, 3], rfl, rfl, a', ha', ?_⟩
      show [AO.gc _ _ _ (AO.ren (lendR [0] 4) a'), AO.cells _, AO.cells _, AO.cells _] = _
      rw [hrj, hgcJ _ _ a' rfl ha']
      rfl
  · rintro σ ⟨h, _⟩
    rw [List.length_map] at h
    omega
  · rintro σ ⟨a, ha, rfl⟩
    exact hfin _ a _ _ ha rfl rfl rfl

set_option maxRecDepth 8000 in
set_option maxHeartbeats 8000000 in
theorem When_ok (r : Ra) (many : Int) (hL : Lens r) : ACall Try.prog 33 [.t (tRa r), .t (vi many)] [] (res (oneE (specWhen r many).1 (specWhen r many).2)) := by
  cases hT : isT r.tw
  rotate_left
  · exact WhenT_ok r many hL fun _ => hT
  refine ACall.walkD k33 ?_
  have hc := check_ok r (isMany many) hL.b hL.l
  have hm := isMany_ok many
  unfold c33
  unfold tRa at hc ⊢
  unfold tw3 ra7 at hc ⊢
  simp only [List.cons_append, List.nil_append] at hc
  simp only [go_sem, Nat.reduceEqDiff, Nat.reduceAdd]
  refine ACallL.quiet1 hm rfl rfl rfl ?_
  simp only [go_sem, Nat.reduceEqDiff, Nat.reduceAdd]
  refine ACallL.quiet1 hc rfl rfl (chkO_flat _ _) ?_
  cases hok : r.ok
  · rw [chkO_bad hok]
    simp only [go_sem, Nat.reduceEqDiff]
    refine finDL_pan rfl rfl ((dfr_pan b95 rfl).mono ?_)
    rintro σ' rfl
    exact ⟨_, rfl, [], rfl, rfl, res_mk (by unfold specWhen ans; rw [hok]; rfl)⟩
  cases hmm : isMany many
  · rw [chkO_rng hok]
    simp only [go_sem, Nat.reduceEqDiff]
    refine finDL_pan rfl rfl ((dfr_pan b95 rfl).mono ?_)
    rintro σ' rfl
    exact ⟨_, rfl, [], rfl, rfl, res_mk (by unfold specWhen ans; rw [hok, hmm]; rfl)⟩
  have hr := (r.ok_iff).1 hok
  obtain ⟨g1, g2, g3⟩ := hr.H
  have hsp : specWhen r many = (0, 10) := by
    unfold specWhen ans
    rw [hok, hmm, hT]
    rfl
  rw [hsp, chkO_ok hok]
  have hren := fun ρ => ren_y ρ r true 0
  have h1 := @inL r hr true
  have hend := qends_ok r true 0 (.map shY [] [] 0) (fun kp σ h => rfl)
  have hfirst := first_pan (f := 111) (k := 97) (fs := []) (cs := [.ptr (.agg [vi 0]) 0, .ptr (.agg [yT r true]) 0]) (G := .fn (.func 111) [] [.t (.ptr (.agg [vi 0]) 0), .vp [yE r true 0] 0])
    (ecs := [.ptr (tRa r) 0, .ptr (.agg [vi many]) 0]) (px := stp1 10) rfl rfl (hoursI r.H 0) (by rw [hoursI_len]; omega) (ends_genP r hr true) (MemoY (r.f true))
    (fun x hx a ha => by
      unfold hoursI at hx
      obtain ⟨h, hm, rfl⟩ := List.mem_map.1 hx
      exact suit3_pan r hr hT many h (mem_hoursL.1 hm).2 a ha) memo_gc memo_ren (.map shY [] [] 0) ⟨[], [], 0, MapY.nil _, rfl⟩
  unfold tRa at hfirst
  unfold tw3 ra7 at hfirst h1
  simp only [List.cons_append, List.nil_append] at hfirst h1
  simp only [go_sem, Nat.reduceEqDiff]
  refine awpL_gcpE [2] [2, 3, 4, 5] { env := [(2, .t (.ptr (tRa r) 0)), (3, .t (.ptr (.agg [vi many]) 0)), (4, .t (vi 0)), (5, .ptr 0 0)], σ := [.cells [.t (vi 0)]], df := [.call 95 [.ptr 0 0]] } ?_ rfl rfl ?_
  · exact St.gc_mk rfl rfl rfl rfl
  unfold tRa tw3 ra7
  simp only [go_sem, Nat.reduceEqDiff, Nat.reduceAdd]
  refine h1 rfl ?_
  simp only [go_sem, Nat.reduceEqDiff]
  refine lend1 (m := 1) hend rfl rfl (by simp only [E.rens, E.ren, hren]; rfl) ?_
  rintro o a' ⟨rfl, rfl⟩
  simp only [go_sem, Nat.reduceEqDiff, Nat.reduceAdd, Out.ren, E.ren, E.rens, hren]
  refine lend1 (m := 1) hfirst rfl rfl (by simp only [E.rens, E.ren, hren]; rfl) ?_
  rintro o a' ⟨rfl, ha'⟩
  simp only [go_sem, Nat.reduceEqDiff, Nat.reduceAdd, Out.ren]
  refine finDL_pan rfl rfl ((dfr_pan b95 rfl).mono ?_)
  rintro σ' rfl
  exact ⟨_, rfl, [], rfl, rfl, res_mk rfl⟩
end Go.Proofs.Ytcpkkjbkbdmopaa
