/- Proved here: laws that the statements need (FlS3, FlS4, FlS5, FlS6). No conditions but those that each law states. -/
import Derived.Test.YtkbjodmpmmnhgaaDoorMF

set_option linter.unusedSimpArgs false
set_option linter.unusedVariables false

/- The document's truths. -/
namespace Go.Proofs.YtkbjodmpmmnhgaaDoor
open Go Go.Ab

/-- All that goes on from some, by a set of what was seen. -/
def extR (f : Fl) (S : Nat) : Nat → List Nat → List (List Nat)
  | 0, l => if right f (inS S 0 f.ss) l then [l] else []
  | k + 1, l => (kset (Kf f l.length)).flatMap fun x => extR f S k (l ++ [x])

theorem rens_t (ρ : Nat → Nat) (xs : List T) : E.rens ρ (xs.map E.t) = xs.map E.t := by
  rw [E.rens_map, List.map_map]; rfl
theorem rens_tf {α : Type} (ρ : Nat → Nat) (f : α → T) (xs : List α) : E.rens ρ (xs.map fun x => E.t (f x)) = xs.map fun x => E.t (f x) := by
  rw [E.rens_map, List.map_map]; rfl
/-- What is put behind the list: of the last one the list itself. -/
def newsE (f : Fl) (S : Nat) : Nat → List Nat → Nat → List E
  | 0, l, id => if right f (inS S 0 f.ss) l then [.loc id l.length] else []
  | k + 1, l, _ => (extR f S (k + 1) l).map fun l => .t (tK l)

theorem newsE_len (f : Fl) (S k : Nat) (l : List Nat) (id : Nat) : (newsE f S k l id).length = (extR f S k l).length := by
  cases k with
  | zero => simp only [newsE, extR]; split <;> rfl
  | succ k => simp [newsE]

theorem newsE_ren (f : Fl) (S k : Nat) (l : List Nat) (id : Nat) (ρ : Nat → Nat) : E.rens ρ (newsE f S k l id) = newsE f S k l (ρ id) := by
  cases k with
  | zero =>
    simp only [newsE]
    split
    · simp only [E.rens, E.ren]
    · rfl
  | succ k => exact rens_tf ρ _ _

abbrev eK (l : List Nat) : List E := l.map fun x : Nat => .t (vi x)

theorem newsE_gc (f : Fl) (S k : Nat) (l : List Nat) (id : Nat) (kp : List Nat) (σ : List AO) (h : pos? kp id = none) (ho : σ[id]? = some (.row 1 (eK l))) : (newsE f S k l id).map (E.gc kp σ 12) = (extR f S k l).map fun l => .t (tK l) := by
  cases k with
  | zero =>
    simp only [newsE, extR]
    split
    · simp only [List.map_cons, List.map_nil]
      rw [gc_loc (xs := l.map fun k : Nat => vi k) h (by rw [List.map_map]; exact ho) (by simp)]
      rfl
    · rfl
  | succ k => simp only [newsE]; rw [List.map_map]; rfl

def truR (f : Fl) (S k : Nat) (l : List Nat) (outs : List T) (o : Out) (σ : List AO) : Prop :=
  o = .ret (.loc 0 (outs.length + (extR f S k l).length)) ∧ σ = [.row 1 (outs.map .t ++ newsE f S k l 1), .row 1 (eK l)]

set_option maxRecDepth 8000 in
set_option maxHeartbeats 2000000 in
theorem rtruths_ok (f : Fl) (hf : f.OK) (S : Nat) (hS : S < 4096) : ∀ (k : Nat) (l : List Nat) (outs : List T), l.length + k = f.hs.length → (∀ x ∈ l, x < 3) → outs.length + (extR f S k l).length ≤ 1000000 →
    ACall Tryd.prog 66 [.t (.agg (fl5 f)), .t (vi S), .loc 1 l.length, .loc 0 outs.length] [.row 1 (outs.map .t), .row 1 (eK l)] (truR f S k l outs)
  | 0, l, outs, hl, hr, hout => by
    refine ACall.walk k66 ?_
    unfold c66
    have hnb := hf.nh
    have hgc : ∀ (σ0 : AO) (rest : List AO), E.gc [] (σ0 :: AO.row 1 (eK l) :: rest) 12 (.loc 1 l.length) = .t (tK l) := fun σ0 rest => gc_loc rfl (by rw [List.map_map]; rfl) (by simp)
    have heq : ((l.length : Int) == (f.hs.length : Int)) = true := by simp; omega
    have h82 := rseen_ok f hf l (by omega) hr S hS
    simp only [fl5] at h82
    simp only [fl5, go_sem, Nat.reduceEqDiff, Nat.reduceAdd, Nat.reduceSub, Nat.reduceMul, Nat.reduceLT, Nat.reduceLeDiff, Nat.reduceMod, Nat.reduceDiv, Int.reduceToNat, Int.reduceLT, Int.reduceLE, Bool.not_true, Bool.not_false, reduceIte, List.length_map, heq]
    refine ACallL.quiet1 h82 rfl (by simp only [List.map_cons, List.map_nil, hgc]; rfl) rfl ?_
    have hnews : newsE f S 0 l 1 = if right f (inS S 0 f.ss) l then [.loc 1 l.length] else [] := rfl
    have hext : extR f S 0 l = if right f (inS S 0 f.ss) l then [l] else [] := rfl
    cases hR : right f (inS S 0 f.ss) l
    · simp only [go_sem, Nat.reduceEqDiff, Nat.reduceAdd, Nat.reduceSub, Nat.reduceMul, Nat.reduceLT, Nat.reduceLeDiff, Nat.reduceMod, Nat.reduceDiv, Int.reduceToNat, Int.reduceLT, Int.reduceLE, Bool.not_true, Bool.not_false, reduceIte]
      refine finL_ret [0, 1] ⟨rfl, rfl, rfl, rfl, _, rfl, ?_, ?_⟩
      · rw [hext, hR]; rfl
      · rw [hnews, hR]; simp only [σgc, AO.gc, List.map_cons, List.map_nil, List.getD_cons_zero, List.getD_cons_succ, List.map_append, List.map_map, gc_t, gc_comp, gc_comp', gc_row, Bool.false_eq_true, if_false, List.append_nil]
    · simp only [go_sem, Nat.reduceEqDiff, Nat.reduceAdd, Nat.reduceSub, Nat.reduceMul, Nat.reduceLT, Nat.reduceLeDiff, Nat.reduceMod, Nat.reduceDiv, Int.reduceToNat, Int.reduceLT, Int.reduceLE, Bool.not_true, Bool.not_false, reduceIte, List.length_map, maxLen]
      refine ⟨by rw [hext, hR] at hout; simp at hout; omega, ?_⟩
      refine finL_ret [0, 1] ⟨rfl, rfl, rfl, rfl, _, rfl, ?_, ?_⟩
      · rw [hext, hR]; rfl
      · rw [hnews, hR]; simp only [σgc, AO.gc, List.map_cons, List.map_nil, List.getD_cons_zero, List.getD_cons_succ, List.map_append, List.map_map, gc_t, gc_comp, gc_comp', gc_row, if_true]; rfl
  | k + 1, l, outs, hl, hr, hout => by
    refine ACall.walk k66 ?_
    unfold c66
    have hnb := hf.nh
    have hext : extR f S (k + 1) l = (kset (Kf f l.length)).flatMap fun x => extR f S k (l ++ [x]) := rfl
    have heq : ((l.length : Int) == (f.hs.length : Int)) = false := by simp; omega
    have hcan := fun x hx => rcan_ok f hf l.length x (by omega) hx
    simp only [fl5] at hcan
    generalize hM : Kf f l.length = M at *
    simp only [fl5, go_sem, Nat.reduceEqDiff, Nat.reduceAdd, Nat.reduceSub, Nat.reduceMul, Nat.reduceLT, Nat.reduceLeDiff, Nat.reduceMod, Nat.reduceDiv, Int.reduceToNat, Int.reduceLT, Int.reduceLE, Bool.not_true, Bool.not_false, reduceIte, List.length_map, heq]
    obtain ⟨nw, hnw⟩ : ∃ nw : Nat → List (List Nat), ∀ j, nw j = ((List.range j).filter M.testBit).flatMap fun x => extR f S k (l ++ [x]) := ⟨_, fun _ => rfl⟩
    have nw0 : nw 0 = [] := by rw [hnw]; rfl
    have nwS : ∀ j, nw (j + 1) = nw j ++ if M.testBit j then extR f S k (l ++ [j]) else [] := fun j => by
      rw [hnw, hnw, List.range_succ, List.filter_append, List.flatMap_append]
      cases hb : M.testBit j <;> simp [hb]
    have nwN : nw 3 = extR f S (k + 1) l := by rw [hnw, hext]; rfl
    have nwB : ∀ j, j ≤ 3 → (nw j).length ≤ (extR f S (k + 1) l).length := fun j hj => by
      rw [← nwN]
      obtain ⟨m, hm⟩ := Nat.exists_eq_add_of_le hj
      rw [hm]
      clear hm hj
      induction m with
      | zero => exact Nat.le_refl _
      | succ m ih => rw [← Nat.add_assoc, nwS, List.length_append]; omega
    refine awpL_loopK 3 (fun j s => s = { env := [(9, .t (vi j)), (3, .loc 0 (outs ++ (nw j).map tK).length), (4, .t (.ptr (.agg (fl5 f)) 0)), (2, .loc 1 l.length), (1, .t (vi S))], σ := [.row 1 ((outs ++ (nw j).map tK).map .t), .row 1 (eK l)] })
      ⟨_, Sub.gc [0, 1] [9, 3, 4, 2, 1] rfl rfl, St.gc_mk (by rw [nw0]; simp; exact ⟨rfl, rfl, rfl, rfl, rfl⟩) (by simp only [σgc, AO.gc, List.map_cons, List.map_nil, List.getD_cons_zero, List.getD_cons_succ, List.map_append, List.map_map, gc_t, gc_comp, gc_comp', gc_row, nw0]; simp) rfl rfl⟩ ?_
    rintro j s hj rfl
    have hbn := nwB j hj
    have hS' := nwS j
    generalize hnj : nw j = nj at *
    simp only [fl5, go_sem, Nat.reduceEqDiff, Nat.reduceAdd, Nat.reduceSub, Nat.reduceMul, Nat.reduceLT, Nat.reduceLeDiff, Nat.reduceMod, Nat.reduceDiv, Int.reduceToNat, Int.reduceLT, Int.reduceLE, Bool.not_true, Bool.not_false, reduceIte]
    refine BrL.mk (fun h => ?_) (fun h => ?_)
    · have hjN : j < 3 := by simp at h; omega
      have hb1 := nwB (j + 1) (by omega)
      have hw : IntKind.i64.wrap ((j : Int) + 1) = ((j + 1 : Nat) : Int) := by rw [wrap_id (by omega) (by omega)]; omega
      have hcj := hcan j hjN
      rw [hS', List.length_append] at hb1
      generalize hosq : outs ++ nj.map tK = os at *
      have hosl : os.length = outs.length + nj.length := by rw [← hosq]; simp
      simp only [h, go_sem, Nat.reduceEqDiff, Nat.reduceAdd, Nat.reduceSub, Nat.reduceMul, Nat.reduceLT, Nat.reduceLeDiff, Nat.reduceMod, Nat.reduceDiv, Int.reduceToNat, Int.reduceLT, Int.reduceLE, Bool.not_true, Bool.not_false, reduceIte, List.length_map]
      refine ACallL.quiet1 hcj rfl rfl rfl ?_
      cases hbit : M.testBit j
      · rw [hbit] at hS'
        simp only [go_sem, Nat.reduceEqDiff, Nat.reduceAdd, Nat.reduceSub, Nat.reduceMul, Nat.reduceLT, Nat.reduceLeDiff, Nat.reduceMod, Nat.reduceDiv, Int.reduceToNat, Int.reduceLT, Int.reduceLE, Bool.not_true, Bool.not_false, reduceIte, hw]
        refine ⟨hjN, _, Sub.gc [0, 1] [9, 3, 4, 2, 1] rfl rfl, ?_⟩
        rw [hS']
        simp only [Bool.false_eq_true, if_false, List.append_nil]
        rw [hosq]
        exact St.gc_mk rfl (by simp only [σgc, AO.gc, List.map_cons, List.map_nil, List.getD_cons_zero, List.getD_cons_succ, List.map_append, List.map_map, gc_t, gc_comp, gc_comp', gc_row]) rfl rfl
      · rw [hbit] at hS' hb1
        simp only [if_true] at hS' hb1
        have hrec := rtruths_ok f hf S hS k (l ++ [j]) os (by simp; omega) (fun x hx => by
          rcases List.mem_append.1 hx with hx | hx
          · exact hr x hx
          · simp at hx; subst hx; omega) (by omega)
        simp only [go_sem, Nat.reduceEqDiff, Nat.reduceAdd, Nat.reduceSub, Nat.reduceMul, Nat.reduceLT, Nat.reduceLeDiff, Nat.reduceMod, Nat.reduceDiv, Int.reduceToNat, Int.reduceLT, Int.reduceLE, Bool.not_true, Bool.not_false, reduceIte]
        refine awpL_gcpE [0, 1] [9, 3, 4, 2, 1] { env := [(9, .t (vi j)), (3, .loc 0 os.length), (4, .t (.ptr (.agg (fl5 f)) 0)), (2, .loc 1 l.length), (1, .t (vi S))], σ := [.row 1 (os.map .t), .row 1 (eK l)] } (St.gc_mk rfl (by simp only [σgc, AO.gc, List.map_cons, List.map_nil, List.getD_cons_zero, List.getD_cons_succ, List.map_append, List.map_map, gc_t, gc_comp, gc_comp', gc_row]) rfl rfl) rfl rfl ?_
        simp only [fl5, go_sem, Nat.reduceEqDiff, Nat.reduceAdd, Nat.reduceSub, Nat.reduceMul, Nat.reduceLT, Nat.reduceLeDiff, Nat.reduceMod, Nat.reduceDiv, Int.reduceToNat, Int.reduceLT, Int.reduceLE, Bool.not_true, Bool.not_false, reduceIte, List.length_map, maxLen]
        have hlen' : (l ++ [j]).length = l.length + 1 := by simp
        rw [hlen'] at hrec
        have hmapl : eK (l ++ [j]) = eK l ++ [.t (vi j)] := by simp
        simp only [fl5] at hrec
        have call : ∀ (p : Nat) (A : AO) (σ : List AO) {R : Lz (Out → List AO → Prop)}, σ = (if p = 2 then [.row 1 (os.map .t), .row 1 (eK l), .row 1 (eK l ++ [.t (vi j)]), A] else [.row 1 (os.map .t), .row 1 (eK l), A, .row 1 (eK l ++ [.t (vi j)])]) → (p = 2 ∨ p = 3) →
            R.get (.ret (.loc 0 (os.length + (extR f S k (l ++ [j])).length))) (σ.set 0 (.row 1 (os.map .t ++ newsE f S k (l ++ [j]) p))) →
            @ACallL Tryd.prog 66 [.t (.agg [vi f.low, vi f.high, vi f.quiet, .slice 3 (f.hs.map tHr), .slice 2 (f.ss.map tSn)]), .t (vi S), .loc p (l.length + 1), .loc 0 os.length] σ R := by
          intro p A σ R hσ hp hR
          have hll : ∀ (ρ : Nat → Nat) (l : List Nat), (eK l).map (E.ren ρ) = eK l := fun ρ l => by rw [List.map_map]; rfl
          have hos : ∀ (ρ : Nat → Nat), (os.map E.t).map (E.ren ρ) = os.map E.t := fun ρ => by rw [List.map_map]; rfl
          have hσl : σ.length = 4 := by rw [hσ]; split <;> rfl
          have e0 : lendR [0, p] σ.length 0 = 0 := rfl
          have e1 : lendR [0, p] σ.length 1 = p := rfl
          refine ACall.mono (ACall.lend [0, p] hrec (by simp; omega) (by simp; omega) rfl (fun i o ho => ?_) (by simp [E.rens_map, E.ren, e0, e1])) ?_
          · match i, ho with
            | 0, ho => simp at ho; subst ho; simp only [AO.ren, rens_t, e0]; rw [hσ]; split <;> rfl
            | 1, ho =>
              simp at ho; subst ho; simp only [AO.ren, E.rens_map, e1, List.map_append, hll, List.map_cons, List.map_nil, E.ren]
              rw [hσ]
              rcases hp with rfl | rfl <;> rfl
          · rintro o σ1 ⟨o0, σ0', ⟨rfl, rfl⟩, _, rfl, rfl⟩
            have hn := newsE_ren f S k (l ++ [j]) 1 (lendR [0, p] σ.length)
            rw [E.rens_map, e1] at hn
            simp only [List.map_cons, List.map_nil, AO.ren, E.rens_map, List.map_append, hmapl, lendB, Out.ren, E.ren, hn, hos, hll, e0]
            rw [List.append_nil]
            have : ((σ.set 0 (.row 1 (os.map E.t ++ newsE f S k (l ++ [j]) p))).set p (.row 1 (eK l ++ [.t (vi j)]))) = σ.set 0 (.row 1 (os.map E.t ++ newsE f S k (l ++ [j]) p)) := by
              rw [hσ]
              rcases hp with rfl | rfl <;> rfl
            rw [this]
            exact hR
        have hsucc : outs ++ (nw (j + 1)).map tK = os ++ (extR f S k (l ++ [j])).map tK := by rw [hS', List.map_append, ← List.append_assoc, hosq]
        have nb1 : l.length ≤ 2 ^ 63 - 1 ∧ l.length * 8 ≤ 140737488355328 := by omega
        have nb2 : l.length + 1 ≤ 2 ^ 63 - 1 ∧ (l.length + 1) * 8 ≤ 140737488355328 := by omega
        have fin : ∀ (p : Nat) (A : AO) (env : List (Nat × E)) (σ : List AO), σ = (if p = 2 then [.row 1 (os.map .t ++ newsE f S k (l ++ [j]) p), .row 1 (eK l), .row 1 (eK l ++ [.t (vi j)]), A] else [.row 1 (os.map .t ++ newsE f S k (l ++ [j]) p), .row 1 (eK l), A, .row 1 (eK l ++ [.t (vi j)])]) → (p = 2 ∨ p = 3) →
            lk env 9 = .t (vi (j + 1 : Nat)) → lk env 3 = .loc 0 (os.length + (extR f S k (l ++ [j])).length) → lk env 4 = .t (.ptr (.agg (fl5 f)) 0) → lk env 2 = .loc 1 l.length → lk env 1 = .t (vi S) →
            ∃ s', Ab.Sub 2 { env := env, σ := σ, df := [], k := 0 } s' ∧ s' = ({ env := [(9, .t (vi (j + 1 : Nat))), (3, .loc 0 (outs ++ (nw (j + 1)).map tK).length), (4, .t (.ptr (.agg (fl5 f)) 0)), (2, .loc 1 l.length), (1, .t (vi S))], σ := [.row 1 ((outs ++ (nw (j + 1)).map tK).map .t), .row 1 (eK l)] } : St) := by
          intro p A env σ hσ hp e9 e3 e4 e2 e1
          have hg := newsE_gc f S k (l ++ [j]) p [0, 1] σ (by rcases hp with rfl | rfl <;> rfl) (by rw [hσ, hmapl]; rcases hp with rfl | rfl <;> rfl)
          have hgl : ∀ (l : List Nat), (eK l).map (E.gc [0, 1] σ 12) = eK l := fun l => by rw [List.map_map]; rfl
          have hgo : (os.map E.t).map (E.gc [0, 1] σ 12) = os.map E.t := by rw [List.map_map]; rfl
          refine ⟨_, Sub.gc [0, 1] [9, 3, 4, 2, 1] (by rw [hσ]; rcases hp with rfl | rfl <;> rfl) rfl, ?_⟩
          rw [hsucc]
          refine St.gc_mk (by simp only [List.map_cons, List.map_nil, lk, e9, e3, e4, e2, e1, List.length_append, List.length_map]; rfl) ?_ rfl rfl
          have s0 : σ[0]? = some (.row 1 (os.map .t ++ newsE f S k (l ++ [j]) p)) := by rw [hσ]; rcases hp with rfl | rfl <;> rfl
          have s1 : σ[1]? = some (.row 1 (eK l)) := by rw [hσ]; rcases hp with rfl | rfl <;> rfl
          simp only [σgc, AO.gc, List.map_cons, List.map_nil, List.getD_eq_getElem?_getD, s0, s1, Option.getD_some, List.map_append, hg, hgl, hgo]
          rw [List.map_map]
          rfl
        repeat' (first | refine AndL.mk ?_ ?_ | simp only [fl5, go_sem, Nat.reduceEqDiff, Nat.reduceAdd, Nat.reduceSub, Nat.reduceMul, Nat.reduceLT, Nat.reduceLeDiff, Nat.reduceMod, Nat.reduceDiv, Int.reduceToNat, Int.reduceLT, Int.reduceLE, Bool.not_true, Bool.not_false, reduceIte, List.length_map, maxLen])
        · refine ⟨nb1, nb2, call 2 _ _ rfl (.inl rfl) ?_⟩
          simp only [go_sem, Nat.reduceEqDiff, Nat.reduceAdd, Nat.reduceSub, Nat.reduceMul, Nat.reduceLT, Nat.reduceLeDiff, Nat.reduceMod, Nat.reduceDiv, Int.reduceToNat, Int.reduceLT, Int.reduceLE, Bool.not_true, Bool.not_false, reduceIte, hw, List.set_cons_zero]
          exact ⟨hjN, fin 2 _ _ _ rfl (.inl rfl) rfl rfl rfl rfl rfl⟩
        · refine ⟨nb1, nb2, call 2 _ _ rfl (.inl rfl) ?_⟩
          simp only [go_sem, Nat.reduceEqDiff, Nat.reduceAdd, Nat.reduceSub, Nat.reduceMul, Nat.reduceLT, Nat.reduceLeDiff, Nat.reduceMod, Nat.reduceDiv, Int.reduceToNat, Int.reduceLT, Int.reduceLE, Bool.not_true, Bool.not_false, reduceIte, hw, List.set_cons_zero]
          exact ⟨hjN, fin 2 _ _ _ rfl (.inl rfl) rfl rfl rfl rfl rfl⟩
        · refine ⟨nb1, nb2, call 3 _ _ rfl (.inr rfl) ?_⟩
          simp only [go_sem, Nat.reduceEqDiff, Nat.reduceAdd, Nat.reduceSub, Nat.reduceMul, Nat.reduceLT, Nat.reduceLeDiff, Nat.reduceMod, Nat.reduceDiv, Int.reduceToNat, Int.reduceLT, Int.reduceLE, Bool.not_true, Bool.not_false, reduceIte, hw, List.set_cons_zero]
          exact ⟨hjN, fin 3 _ _ _ rfl (.inr rfl) rfl rfl rfl rfl rfl⟩
    · have hjN : j = 3 := by simp at h; omega
      subst hjN
      simp only [h, go_sem, Nat.reduceEqDiff, Nat.reduceAdd, Nat.reduceSub, Nat.reduceMul, Nat.reduceLT, Nat.reduceLeDiff, Nat.reduceMod, Nat.reduceDiv, Int.reduceToNat, Int.reduceLT, Int.reduceLE, Bool.not_true, Bool.not_false, reduceIte]
      have hfin : nj = extR f S (k + 1) l := by rw [← nwN]; exact hnj.symm
      refine finL_ret [0, 1] ⟨rfl, rfl, rfl, rfl, _, rfl, ?_, ?_⟩
      · rw [hfin]; simp; rfl
      · rw [hfin]; simp only [newsE, σgc, AO.gc, List.map_cons, List.map_nil, List.getD_cons_zero, List.getD_cons_succ, List.map_append, List.map_map, gc_t, gc_comp, gc_comp', gc_row]; rfl

/-! ### The truths, as rows of kinds -/
theorem extR_eq (f : Fl) (S : Nat) : ∀ (k : Nat) (l : List Nat), extR f S k l = ((kls f k l.length).map (l ++ ·)).filter (right f (inS S 0 f.ss))
  | 0, l => by
    simp only [extR, kls, List.map_cons, List.map_nil, List.append_nil]
    cases h : right f (inS S 0 f.ss) l <;> simp [h]
  | k + 1, l => by
    simp only [extR, kls, List.map_flatMap, filter_flatMap, List.map_map]
    congr 1
    funext x
    rw [extR_eq f S k (l ++ [x]), List.length_append]
    congr 1
    apply List.map_congr_left
    intro r _
    simp
/-- The truths, by a set of what was seen. -/
def truthsW (f : Fl) (S : Nat) : List (List Nat) := (rows f).filter (right f (inS S 0 f.ss))
theorem extR_rows (f : Fl) (S : Nat) : extR f S f.hs.length [] = truthsW f S := by
  rw [extR_eq]
  unfold truthsW
  simp
theorem rows_many (f : Fl) : ∀ (k h : Nat), (kls f k h).length ≤ 3 ^ k
  | 0, _ => by simp [kls]
  | k + 1, h => by
    have ih := rows_many f k (h + 1)
    simp only [kls, List.length_flatMap, List.length_map]
    have hk : (kset (Kf f h)).length ≤ 3 := by
      unfold kset
      exact Nat.le_trans (List.length_filter_le _ _) (by simp)
    have : ∀ L : List Nat, (L.map fun _ => (kls f k (h + 1)).length).sum ≤ L.length * 3 ^ k := fun L => by
      induction L with
      | nil => simp
      | cons x L ih' => simp only [List.map_cons, List.sum_cons, List.length_cons, Nat.succ_mul]; omega
    have h1 := this (kset (Kf f h))
    have h2 := Nat.mul_le_mul_right (3 ^ k) hk
    rw [Nat.pow_succ]
    omega
theorem truthsW_many (f : Fl) (hf : f.OK) (S : Nat) : (truthsW f S).length ≤ 19683 := by
  have h1 : (rows f).length ≤ 3 ^ f.hs.length := rows_many f f.hs.length 0
  have h2 : 3 ^ f.hs.length ≤ 3 ^ 9 := Nat.pow_le_pow_right (by omega) hf.nh
  have h3 : (3 : Nat) ^ 9 = 19683 := by decide
  have h4 : (truthsW f S).length ≤ (rows f).length := List.length_filter_le _ _
  omega

abbrev tKs (l : List (List Nat)) : T := .slice 1 (l.map tK)
theorem rtruthsN_ok (f : Fl) (hf : f.OK) (S : Nat) (hS : S < 4096) :
    ACall Tryd.prog 66 [.t (.agg (fl5 f)), .t (vi S), .t (.lit (.slice none 0 0)), .t (.lit (.slice none 0 0))] [] (ret (tKs (truthsW f S))) := by
  have hmany := truthsW_many f hf S
  have hrows := extR_rows f S
  have h := rtruths_ok f hf S hS f.hs.length [] [] (by simp) (by simp) (by rw [hrows]; simp; omega)
  have h1 := ACall.ghost (σ := [.row 1 []]) 1 (by decide) h
  have h2 := ACall.ghost (σ := []) 1 (by decide) h1
  refine (ACall.strike h2).mono ?_
  rintro o σ ⟨o0, σ0, ⟨rfl, rfl⟩, rfl, rfl⟩
  refine ⟨?_, rfl⟩
  simp only [Out.gc, List.map_nil, List.nil_append, List.length_nil, Nat.zero_add]
  congr 1
  rw [E.gc]
  simp only [pos?, List.getElem?_cons_zero, newsE_len, if_true]
  have hg' : (newsE f S f.hs.length [] 1).map (E.gc [] [AO.row 1 (newsE f S f.hs.length [] 1), AO.row 1 []] 11) = ((truthsW f S).map tK).map .t := by
    rw [List.map_map, ← hrows]
    cases hk : f.hs.length with
    | zero =>
      simp only [newsE, extR]
      split <;> rfl
    | succ k =>
      simp only [newsE]
      rw [List.map_map]
      rfl
  rw [hg', allT_t]

theorem inS_all (S : Nat) : ∀ (l : List Sn) (i : Nat), (∀ j < l.length, S.testBit (i + j) = true) → inS S i l = l
  | [], _, _ => rfl
  | s :: l, i, h => by
    simp only [inS]
    rw [if_pos (by simpa using h 0 (by simp)), inS_all S l (i + 1) fun j hj => by
      have := h (j + 1) (by simpa using hj)
      rwa [show i + 1 + j = i + (j + 1) by omega]]
theorem truthsW_all (f : Fl) : truthsW f (2 ^ f.ss.length - 1) = truths f := by
  unfold truthsW truths
  rw [inS_all _ f.ss 0 fun j hj => by rw [Nat.zero_add, Nat.testBit_two_pow_sub_one]; simpa using hj]

theorem revery_ok (f : Fl) (hf : f.OK) : ACall Tryd.prog 65 [.t (.agg (fl5 f))] [] (ret (vi ((2 ^ f.ss.length - 1 : Nat) : Int))) := by
  refine ACall.walk k65 ?_
  unfold c65 fl5
  have hns := hf.ns
  have h49 := power_ok f.ss.length (by omega)
  have hp2 : 2 ^ f.ss.length ≤ 256 := Nat.pow_le_pow_right (n := 2) (by decide) hns
  have hp1 := Nat.two_pow_pos f.ss.length
  generalize 2 ^ f.ss.length = P at *
  have hw : IntKind.i64.wrap ((P : Int) - 1) = ((P - 1 : Nat) : Int) := by rw [wrap_id (by omega) (by omega)]; omega
  simp only [go_sem, Nat.reduceEqDiff, Nat.reduceAdd, Nat.reduceSub, Nat.reduceMul, Nat.reduceLT, Nat.reduceLeDiff, Nat.reduceMod, Nat.reduceDiv, Int.reduceToNat, Int.reduceLT, Int.reduceLE, Bool.not_true, Bool.not_false, reduceIte, Int.reduceEq, Int.reduceBEq, Int.reduceBNe, Int.reduceGT, Int.reduceGE, Int.reduceNeg, Int.reduceAdd, Int.reduceSub, Nat.reduceBEq, decide_true, decide_false, undef, beq_self_eq_true, bne_self_eq_false, Bool.and_true, Bool.true_and, Bool.and_false, Bool.false_and, Bool.or_true, Bool.true_or, Bool.or_false, Bool.false_or, List.length_map]
  refine ACallL.quiet1 h49 rfl rfl rfl ?_
  simp only [go_sem, Nat.reduceEqDiff, Nat.reduceAdd, Nat.reduceSub, Nat.reduceMul, Nat.reduceLT, Nat.reduceLeDiff, Nat.reduceMod, Nat.reduceDiv, Int.reduceToNat, Int.reduceLT, Int.reduceLE, Bool.not_true, Bool.not_false, reduceIte, Int.reduceEq, Int.reduceBEq, Int.reduceBNe, Int.reduceGT, Int.reduceGE, Int.reduceNeg, Int.reduceAdd, Int.reduceSub, Nat.reduceBEq, decide_true, decide_false, undef, beq_self_eq_true, bne_self_eq_false, Bool.and_true, Bool.true_and, Bool.and_false, Bool.false_and, Bool.or_true, Bool.true_or, Bool.or_false, Bool.false_or, hw]
  exact finL_ret [] ⟨rfl, rfl, rfl, rfl, _, rfl, res_mk rfl⟩

theorem rTruths_ok (f : Fl) (hf : f.OK) : ACall Tryd.prog 55 [.t (.agg (fl5 f))] [] (ret (tKs (truths f))) := by
  refine ACall.walk k55 ?_
  have hns := hf.ns
  have hp2 : 2 ^ f.ss.length ≤ 256 := Nat.pow_le_pow_right (n := 2) (by decide) hns
  have h65 := revery_ok f hf
  have h66 := rtruthsN_ok f hf (2 ^ f.ss.length - 1) (by omega)
  rw [truthsW_all] at h66
  unfold c55 fl5
  simp only [fl5] at h65 h66
  simp only [go_sem, Nat.reduceEqDiff, Nat.reduceAdd, Nat.reduceSub, Nat.reduceMul, Nat.reduceLT, Nat.reduceLeDiff, Nat.reduceMod, Nat.reduceDiv, Int.reduceToNat, Int.reduceLT, Int.reduceLE, Bool.not_true, Bool.not_false, reduceIte, Int.reduceEq, Int.reduceBEq, Int.reduceBNe, Int.reduceGT, Int.reduceGE, Int.reduceNeg, Int.reduceAdd, Int.reduceSub, Nat.reduceBEq, decide_true, decide_false, undef, beq_self_eq_true, bne_self_eq_false, Bool.and_true, Bool.true_and, Bool.and_false, Bool.false_and, Bool.or_true, Bool.true_or, Bool.or_false, Bool.false_or]
  refine ACallL.fresh1 h65 rfl ?_
  simp only [go_sem, Nat.reduceEqDiff, Nat.reduceAdd, Nat.reduceSub, Nat.reduceMul, Nat.reduceLT, Nat.reduceLeDiff, Nat.reduceMod, Nat.reduceDiv, Int.reduceToNat, Int.reduceLT, Int.reduceLE, Bool.not_true, Bool.not_false, reduceIte, Int.reduceEq, Int.reduceBEq, Int.reduceBNe, Int.reduceGT, Int.reduceGE, Int.reduceNeg, Int.reduceAdd, Int.reduceSub, Nat.reduceBEq, decide_true, decide_false, undef, beq_self_eq_true, bne_self_eq_false, Bool.and_true, Bool.true_and, Bool.and_false, Bool.false_and, Bool.or_true, Bool.true_or, Bool.or_false, Bool.false_or]
  refine ACallL.fresh1 h66 rfl ?_
  simp only [go_sem, Nat.reduceEqDiff, Nat.reduceAdd, Nat.reduceSub, Nat.reduceMul, Nat.reduceLT, Nat.reduceLeDiff, Nat.reduceMod, Nat.reduceDiv, Int.reduceToNat, Int.reduceLT, Int.reduceLE, Bool.not_true, Bool.not_false, reduceIte, Int.reduceEq, Int.reduceBEq, Int.reduceBNe, Int.reduceGT, Int.reduceGE, Int.reduceNeg, Int.reduceAdd, Int.reduceSub, Nat.reduceBEq, decide_true, decide_false, undef, beq_self_eq_true, bne_self_eq_false, Bool.and_true, Bool.true_and, Bool.and_false, Bool.false_and, Bool.or_true, Bool.true_or, Bool.or_false, Bool.false_or]
  exact finL_ret [] ⟨rfl, rfl, rfl, rfl, _, rfl, rfl, rfl⟩

def nilT : T := .lit (.slice none 0 0)
def toldO (f : Fl) (is : Bool) : Out :=
  if f.ok then (if is then (if noT f then .ret (.tup [.t nilT, .t (vi 10)]) else .ret (.tup [.t (tKs (truths f)), .t (vi 0)])) else .ret (.tup [.t nilT, .t (vi 2)])) else .ret (.tup [.t nilT, .t (vi 1)])

theorem rtold_ok (f : Fl) (is : Bool) (hl : f.hs.length < 9223372036854775808 ∧ f.ss.length < 9223372036854775808) : ACall Tryd.prog 53 [.t (.agg (fl5 f)), .t (vb is)] [] (res (toldO f is)) := by
  refine ACall.walk k53 ?_
  have h36 := rflag_ok f hl
  unfold c53 fl5
  simp only [fl5] at h36
  simp only [go_sem, Nat.reduceEqDiff, Nat.reduceAdd, Nat.reduceSub, Nat.reduceMul, Nat.reduceLT, Nat.reduceLeDiff, Nat.reduceMod, Nat.reduceDiv, Int.reduceToNat, Int.reduceLT, Int.reduceLE, Bool.not_true, Bool.not_false, reduceIte, Int.reduceEq, Int.reduceBEq, Int.reduceBNe, Int.reduceGT, Int.reduceGE, Int.reduceNeg, Int.reduceAdd, Int.reduceSub, Nat.reduceBEq, decide_true, decide_false, undef, beq_self_eq_true, bne_self_eq_false, Bool.and_true, Bool.true_and, Bool.and_false, Bool.false_and, Bool.or_true, Bool.true_or, Bool.or_false, Bool.false_or]
  refine ACallL.quiet1 h36 rfl rfl rfl ?_
  cases hok : f.ok
  · simp only [go_sem, Nat.reduceEqDiff, Nat.reduceAdd, Nat.reduceSub, Nat.reduceMul, Nat.reduceLT, Nat.reduceLeDiff, Nat.reduceMod, Nat.reduceDiv, Int.reduceToNat, Int.reduceLT, Int.reduceLE, Bool.not_true, Bool.not_false, reduceIte, Int.reduceEq, Int.reduceBEq, Int.reduceBNe, Int.reduceGT, Int.reduceGE, Int.reduceNeg, Int.reduceAdd, Int.reduceSub, Nat.reduceBEq, decide_true, decide_false, undef, beq_self_eq_true, bne_self_eq_false, Bool.and_true, Bool.true_and, Bool.and_false, Bool.false_and, Bool.or_true, Bool.true_or, Bool.or_false, Bool.false_or]
    exact finL_ret [] ⟨rfl, rfl, rfl, rfl, _, rfl, res_mk (by simp only [toldO, hok]; rfl)⟩
  · have hf := (Fl.ok_iff f).1 hok
    have h55 := rTruths_ok f hf
    simp only [fl5] at h55
    cases is
    · simp only [go_sem, Nat.reduceEqDiff, Nat.reduceAdd, Nat.reduceSub, Nat.reduceMul, Nat.reduceLT, Nat.reduceLeDiff, Nat.reduceMod, Nat.reduceDiv, Int.reduceToNat, Int.reduceLT, Int.reduceLE, Bool.not_true, Bool.not_false, reduceIte, Int.reduceEq, Int.reduceBEq, Int.reduceBNe, Int.reduceGT, Int.reduceGE, Int.reduceNeg, Int.reduceAdd, Int.reduceSub, Nat.reduceBEq, decide_true, decide_false, undef, beq_self_eq_true, bne_self_eq_false, Bool.and_true, Bool.true_and, Bool.and_false, Bool.false_and, Bool.or_true, Bool.true_or, Bool.or_false, Bool.false_or]
      exact finL_ret [] ⟨rfl, rfl, rfl, rfl, _, rfl, res_mk (by simp only [toldO, hok]; rfl)⟩
    · simp only [go_sem, Nat.reduceEqDiff, Nat.reduceAdd, Nat.reduceSub, Nat.reduceMul, Nat.reduceLT, Nat.reduceLeDiff, Nat.reduceMod, Nat.reduceDiv, Int.reduceToNat, Int.reduceLT, Int.reduceLE, Bool.not_true, Bool.not_false, reduceIte, Int.reduceEq, Int.reduceBEq, Int.reduceBNe, Int.reduceGT, Int.reduceGE, Int.reduceNeg, Int.reduceAdd, Int.reduceSub, Nat.reduceBEq, decide_true, decide_false, undef, beq_self_eq_true, bne_self_eq_false, Bool.and_true, Bool.true_and, Bool.and_false, Bool.false_and, Bool.or_true, Bool.true_or, Bool.or_false, Bool.false_or]
      refine ACallL.fresh1 h55 rfl ?_
      have hz : ((((truths f).length : Int)) == 0) = noT f := by
        unfold noT
        cases truths f with
        | nil => rfl
        | cons x l => simp; omega
      cases hT : noT f
      · rw [hT] at hz
        simp only [go_sem, Nat.reduceEqDiff, Nat.reduceAdd, Nat.reduceSub, Nat.reduceMul, Nat.reduceLT, Nat.reduceLeDiff, Nat.reduceMod, Nat.reduceDiv, Int.reduceToNat, Int.reduceLT, Int.reduceLE, Bool.not_true, Bool.not_false, reduceIte, Int.reduceEq, Int.reduceBEq, Int.reduceBNe, Int.reduceGT, Int.reduceGE, Int.reduceNeg, Int.reduceAdd, Int.reduceSub, Nat.reduceBEq, decide_true, decide_false, undef, beq_self_eq_true, bne_self_eq_false, Bool.and_true, Bool.true_and, Bool.and_false, Bool.false_and, Bool.or_true, Bool.true_or, Bool.or_false, Bool.false_or, List.length_map, hz]
        exact finL_ret [] ⟨rfl, rfl, rfl, rfl, _, rfl, res_mk (by simp only [toldO, hok, hT]; rfl)⟩
      · rw [hT] at hz
        simp only [go_sem, Nat.reduceEqDiff, Nat.reduceAdd, Nat.reduceSub, Nat.reduceMul, Nat.reduceLT, Nat.reduceLeDiff, Nat.reduceMod, Nat.reduceDiv, Int.reduceToNat, Int.reduceLT, Int.reduceLE, Bool.not_true, Bool.not_false, reduceIte, Int.reduceEq, Int.reduceBEq, Int.reduceBNe, Int.reduceGT, Int.reduceGE, Int.reduceNeg, Int.reduceAdd, Int.reduceSub, Nat.reduceBEq, decide_true, decide_false, undef, beq_self_eq_true, bne_self_eq_false, Bool.and_true, Bool.true_and, Bool.and_false, Bool.false_and, Bool.or_true, Bool.true_or, Bool.or_false, Bool.false_or, List.length_map, hz]
        exact finL_ret [] ⟨rfl, rfl, rfl, rfl, _, rfl, res_mk (by simp only [toldO, hok, hT]; rfl)⟩
end Go.Proofs.YtkbjodmpmmnhgaaDoor

/- The document's Kinds, Count, Up, Long. -/
namespace Go.Proofs.YtkbjodmpmmnhgaaDoor
open Go Go.Ab

theorem or_add {m k : Nat} (h : m < 2 ^ k) : m ||| 2 ^ k = m + 2 ^ k := by
  have := Nat.two_pow_add_eq_or_of_lt h 1
  rw [Nat.mul_one] at this
  rw [Nat.add_comm, this, Nat.or_comm]
theorem countP_take {α : Type} (p : α → Bool) (l : List α) (k : Nat) (x : α) (h : l[k]? = some x) : (l.take (k + 1)).countP p = (l.take k).countP p + if p x then 1 else 0 := by
  obtain ⟨hk, e⟩ := List.getElem?_eq_some_iff.1 h
  rw [List.take_succ_eq_append_getElem hk, List.countP_append, e]
  simp [List.countP_cons]

/-! ### Kinds -/
theorem maskB (M : Nat) (hM : M < 8) : maskOf M.testBit 3 = M := by
  have key : ∀ M : Nat, M < 256 → M < 8 → maskOf M.testBit 3 = M := dec256 (p := fun M => M < 8 → maskOf M.testBit 3 = M) (by decide +kernel)
  exact key M (by omega) hM

set_option maxRecDepth 4000 in
theorem rKinds_ok (f : Fl) (h : Int) (hl : f.hs.length < 9223372036854775808 ∧ f.ss.length < 9223372036854775808) : ACall Tryd.prog 16 [.t (.agg (fl5 f)), .t (vi h)] [] (res (oneE (specKinds f h).1 (specKinds f h).2)) := by
  refine ACall.walk k16 ?_
  have h36 := rflag_ok f hl
  have h47 := rhour_ok f h hl.1
  unfold c16 fl5
  simp only [fl5] at h36 h47
  simp only [go_sem, Nat.reduceEqDiff, Nat.reduceAdd, Nat.reduceSub, Nat.reduceMul, Nat.reduceLT, Nat.reduceLeDiff, Nat.reduceMod, Nat.reduceDiv, Int.reduceToNat, Int.reduceLT, Int.reduceLE, Bool.not_true, Bool.not_false, reduceIte, Int.reduceEq, Int.reduceBEq, Int.reduceBNe, Int.reduceGT, Int.reduceGE, Int.reduceNeg, Int.reduceAdd, Int.reduceSub, Nat.reduceBEq, decide_true, decide_false, undef, beq_self_eq_true, bne_self_eq_false, Bool.and_true, Bool.true_and, Bool.and_false, Bool.false_and, Bool.or_true, Bool.true_or, Bool.or_false, Bool.false_or]
  refine ACallL.quiet1 h36 rfl rfl rfl ?_
  cases hok : f.ok
  · simp only [go_sem, Nat.reduceEqDiff, Nat.reduceAdd, Nat.reduceSub, Nat.reduceMul, Nat.reduceLT, Nat.reduceLeDiff, Nat.reduceMod, Nat.reduceDiv, Int.reduceToNat, Int.reduceLT, Int.reduceLE, Bool.not_true, Bool.not_false, reduceIte, Int.reduceEq, Int.reduceBEq, Int.reduceBNe, Int.reduceGT, Int.reduceGE, Int.reduceNeg, Int.reduceAdd, Int.reduceSub, Nat.reduceBEq, decide_true, decide_false, undef, beq_self_eq_true, bne_self_eq_false, Bool.and_true, Bool.true_and, Bool.and_false, Bool.false_and, Bool.or_true, Bool.true_or, Bool.or_false, Bool.false_or]
    exact finL_ret [] ⟨rfl, rfl, rfl, rfl, _, rfl, res_mk (by simp only [specKinds, hok]; rfl)⟩
  · have hf := (Fl.ok_iff f).1 hok
    simp only [go_sem, Nat.reduceEqDiff, Nat.reduceAdd, Nat.reduceSub, Nat.reduceMul, Nat.reduceLT, Nat.reduceLeDiff, Nat.reduceMod, Nat.reduceDiv, Int.reduceToNat, Int.reduceLT, Int.reduceLE, Bool.not_true, Bool.not_false, reduceIte, Int.reduceEq, Int.reduceBEq, Int.reduceBNe, Int.reduceGT, Int.reduceGE, Int.reduceNeg, Int.reduceAdd, Int.reduceSub, Nat.reduceBEq, decide_true, decide_false, undef, beq_self_eq_true, bne_self_eq_false, Bool.and_true, Bool.true_and, Bool.and_false, Bool.false_and, Bool.or_true, Bool.true_or, Bool.or_false, Bool.false_or]
    refine ACallL.quiet1 h47 rfl rfl rfl ?_
    cases hB : f.isH h
    · simp only [go_sem, Nat.reduceEqDiff, Nat.reduceAdd, Nat.reduceSub, Nat.reduceMul, Nat.reduceLT, Nat.reduceLeDiff, Nat.reduceMod, Nat.reduceDiv, Int.reduceToNat, Int.reduceLT, Int.reduceLE, Bool.not_true, Bool.not_false, reduceIte, Int.reduceEq, Int.reduceBEq, Int.reduceBNe, Int.reduceGT, Int.reduceGE, Int.reduceNeg, Int.reduceAdd, Int.reduceSub, Nat.reduceBEq, decide_true, decide_false, undef, beq_self_eq_true, bne_self_eq_false, Bool.and_true, Bool.true_and, Bool.and_false, Bool.false_and, Bool.or_true, Bool.true_or, Bool.or_false, Bool.false_or]
      exact finL_ret [] ⟨rfl, rfl, rfl, rfl, _, rfl, res_mk (by simp only [specKinds, hok, hB]; rfl)⟩
    · obtain ⟨h0, h1⟩ := isH_iff.1 hB
      obtain ⟨n, rfl⟩ : ∃ n : Nat, h = n := ⟨h.toNat, by omega⟩
      have hM := Kf_lt f n
      have hcan := fun k hk => rcan_ok f hf n k (by omega) hk
      simp only [fl5] at hcan
      have hsp : specKinds f n = (((Kf f n : Nat) : Int), 0) := by simp only [specKinds, hok, hB]; rfl
      rw [hsp]
      generalize Kf f n = M at *
      simp only [go_sem, Nat.reduceEqDiff, Nat.reduceAdd, Nat.reduceSub, Nat.reduceMul, Nat.reduceLT, Nat.reduceLeDiff, Nat.reduceMod, Nat.reduceDiv, Int.reduceToNat, Int.reduceLT, Int.reduceLE, Bool.not_true, Bool.not_false, reduceIte, Int.reduceEq, Int.reduceBEq, Int.reduceBNe, Int.reduceGT, Int.reduceGE, Int.reduceNeg, Int.reduceAdd, Int.reduceSub, Nat.reduceBEq, decide_true, decide_false, undef, beq_self_eq_true, bne_self_eq_false, Bool.and_true, Bool.true_and, Bool.and_false, Bool.false_and, Bool.or_true, Bool.true_or, Bool.or_false, Bool.false_or]
      refine awpL_loopK 3 (fun j s => s = { env := [(7, .t (vi j)), (6, .t (vi (maskOf M.testBit j : Nat))), (1, .t (vi n)), (2, .ptr 0 0)], σ := [.cells ((fl5 f).map .t)] }) ⟨_, Sub.gc [0] [7, 6, 1, 2] rfl rfl, rfl⟩ ?_
      rintro j s hj rfl
      simp only [fl5, go_sem, Nat.reduceEqDiff, Nat.reduceAdd, Nat.reduceSub, Nat.reduceMul, Nat.reduceLT, Nat.reduceLeDiff, Nat.reduceMod, Nat.reduceDiv, Int.reduceToNat, Int.reduceLT, Int.reduceLE, Bool.not_true, Bool.not_false, reduceIte, Int.reduceEq, Int.reduceBEq, Int.reduceBNe, Int.reduceGT, Int.reduceGE, Int.reduceNeg, Int.reduceAdd, Int.reduceSub, Nat.reduceBEq, decide_true, decide_false, undef, beq_self_eq_true, bne_self_eq_false, Bool.and_true, Bool.true_and, Bool.and_false, Bool.false_and, Bool.or_true, Bool.true_or, Bool.or_false, Bool.false_or]
      refine BrL.mk (fun g => ?_) (fun g => ?_)
      · have hj3 : j < 3 := by simp at g; omega
        have hw : IntKind.i64.wrap ((j : Int) + 1) = ((j + 1 : Nat) : Int) := by rw [wrap_id (by omega) (by omega)]; omega
        have hlt := maskOf_lt M.testBit j
        have hp : 2 ^ j ≤ 8 := or_lt8 (by omega)
        have hs : maskOf M.testBit (j + 1) = if M.testBit j then maskOf M.testBit j ||| 2 ^ j else maskOf M.testBit j := rfl
        rw [or_add hlt] at hs
        have hwm : IntKind.i64.wrap ((maskOf M.testBit j : Nat) + ((2 ^ j : Nat) : Int)) = ((maskOf M.testBit j + 2 ^ j : Nat) : Int) := by
          generalize 2 ^ j = q at *
          rw [wrap_id (by omega) (by omega)]; omega
        simp only [g, go_sem, Nat.reduceEqDiff, Nat.reduceAdd, Nat.reduceSub, Nat.reduceMul, Nat.reduceLT, Nat.reduceLeDiff, Nat.reduceMod, Nat.reduceDiv, Int.reduceToNat, Int.reduceLT, Int.reduceLE, Bool.not_true, Bool.not_false, reduceIte, Int.reduceEq, Int.reduceBEq, Int.reduceBNe, Int.reduceGT, Int.reduceGE, Int.reduceNeg, Int.reduceAdd, Int.reduceSub, Nat.reduceBEq, decide_true, decide_false, undef, beq_self_eq_true, bne_self_eq_false, Bool.and_true, Bool.true_and, Bool.and_false, Bool.false_and, Bool.or_true, Bool.true_or, Bool.or_false, Bool.false_or]
        refine ACallL.quiet1 (hcan j hj3) rfl rfl rfl ?_
        cases hb : M.testBit j
        · rw [hb] at hs
          simp only [go_sem, Nat.reduceEqDiff, Nat.reduceAdd, Nat.reduceSub, Nat.reduceMul, Nat.reduceLT, Nat.reduceLeDiff, Nat.reduceMod, Nat.reduceDiv, Int.reduceToNat, Int.reduceLT, Int.reduceLE, Bool.not_true, Bool.not_false, reduceIte, Int.reduceEq, Int.reduceBEq, Int.reduceBNe, Int.reduceGT, Int.reduceGE, Int.reduceNeg, Int.reduceAdd, Int.reduceSub, Nat.reduceBEq, decide_true, decide_false, undef, beq_self_eq_true, bne_self_eq_false, Bool.and_true, Bool.true_and, Bool.and_false, Bool.false_and, Bool.or_true, Bool.true_or, Bool.or_false, Bool.false_or, hw]
          refine ⟨hj3, _, Sub.gc [0] [7, 6, 1, 2] rfl rfl, ?_⟩
          rw [hs]
          rfl
        · rw [hb] at hs
          simp only [go_sem, Nat.reduceEqDiff, Nat.reduceAdd, Nat.reduceSub, Nat.reduceMul, Nat.reduceLT, Nat.reduceLeDiff, Nat.reduceMod, Nat.reduceDiv, Int.reduceToNat, Int.reduceLT, Int.reduceLE, Bool.not_true, Bool.not_false, reduceIte, Int.reduceEq, Int.reduceBEq, Int.reduceBNe, Int.reduceGT, Int.reduceGE, Int.reduceNeg, Int.reduceAdd, Int.reduceSub, Nat.reduceBEq, decide_true, decide_false, undef, beq_self_eq_true, bne_self_eq_false, Bool.and_true, Bool.true_and, Bool.and_false, Bool.false_and, Bool.or_true, Bool.true_or, Bool.or_false, Bool.false_or]
          refine ACallL.quiet1 (power_ok j (by omega)) rfl rfl rfl ?_
          simp only [go_sem, Nat.reduceEqDiff, Nat.reduceAdd, Nat.reduceSub, Nat.reduceMul, Nat.reduceLT, Nat.reduceLeDiff, Nat.reduceMod, Nat.reduceDiv, Int.reduceToNat, Int.reduceLT, Int.reduceLE, Bool.not_true, Bool.not_false, reduceIte, Int.reduceEq, Int.reduceBEq, Int.reduceBNe, Int.reduceGT, Int.reduceGE, Int.reduceNeg, Int.reduceAdd, Int.reduceSub, Nat.reduceBEq, decide_true, decide_false, undef, beq_self_eq_true, bne_self_eq_false, Bool.and_true, Bool.true_and, Bool.and_false, Bool.false_and, Bool.or_true, Bool.true_or, Bool.or_false, Bool.false_or, hw, hwm]
          refine ⟨hj3, _, Sub.gc [0] [7, 6, 1, 2] rfl rfl, ?_⟩
          rw [hs]
          rfl
      · have hj3 : j = 3 := by simp at g; omega
        subst hj3
        simp only [g, go_sem, Nat.reduceEqDiff, Nat.reduceAdd, Nat.reduceSub, Nat.reduceMul, Nat.reduceLT, Nat.reduceLeDiff, Nat.reduceMod, Nat.reduceDiv, Int.reduceToNat, Int.reduceLT, Int.reduceLE, Bool.not_true, Bool.not_false, reduceIte, Int.reduceEq, Int.reduceBEq, Int.reduceBNe, Int.reduceGT, Int.reduceGE, Int.reduceNeg, Int.reduceAdd, Int.reduceSub, Nat.reduceBEq, decide_true, decide_false, undef, beq_self_eq_true, bne_self_eq_false, Bool.and_true, Bool.true_and, Bool.and_false, Bool.false_and, Bool.or_true, Bool.true_or, Bool.or_false, Bool.false_or]
        exact finL_ret [] ⟨rfl, rfl, rfl, rfl, _, rfl, res_mk (by rw [maskB M hM]; rfl)⟩

/-! ### Count -/
theorem rCount_ok (f : Fl) (hl : f.hs.length < 9223372036854775808 ∧ f.ss.length < 9223372036854775808) : ACall Tryd.prog 20 [.t (.agg (fl5 f))] [] (res (oneE (specCount f).1 (specCount f).2)) := by
  refine ACall.walk k20 ?_
  have h36 := rflag_ok f hl
  unfold c20 fl5
  simp only [fl5] at h36
  simp only [go_sem, Nat.reduceEqDiff, Nat.reduceAdd, Nat.reduceSub, Nat.reduceMul, Nat.reduceLT, Nat.reduceLeDiff, Nat.reduceMod, Nat.reduceDiv, Int.reduceToNat, Int.reduceLT, Int.reduceLE, Bool.not_true, Bool.not_false, reduceIte, Int.reduceEq, Int.reduceBEq, Int.reduceBNe, Int.reduceGT, Int.reduceGE, Int.reduceNeg, Int.reduceAdd, Int.reduceSub, Nat.reduceBEq, decide_true, decide_false, undef, beq_self_eq_true, bne_self_eq_false, Bool.and_true, Bool.true_and, Bool.and_false, Bool.false_and, Bool.or_true, Bool.true_or, Bool.or_false, Bool.false_or]
  refine ACallL.quiet1 h36 rfl rfl rfl ?_
  cases hok : f.ok
  · simp only [go_sem, Nat.reduceEqDiff, Nat.reduceAdd, Nat.reduceSub, Nat.reduceMul, Nat.reduceLT, Nat.reduceLeDiff, Nat.reduceMod, Nat.reduceDiv, Int.reduceToNat, Int.reduceLT, Int.reduceLE, Bool.not_true, Bool.not_false, reduceIte, Int.reduceEq, Int.reduceBEq, Int.reduceBNe, Int.reduceGT, Int.reduceGE, Int.reduceNeg, Int.reduceAdd, Int.reduceSub, Nat.reduceBEq, decide_true, decide_false, undef, beq_self_eq_true, bne_self_eq_false, Bool.and_true, Bool.true_and, Bool.and_false, Bool.false_and, Bool.or_true, Bool.true_or, Bool.or_false, Bool.false_or]
    exact finL_ret [] ⟨rfl, rfl, rfl, rfl, _, rfl, res_mk (by simp only [specCount, hok]; rfl)⟩
  · have hf := (Fl.ok_iff f).1 hok
    have h55 := rTruths_ok f hf
    simp only [fl5] at h55
    simp only [go_sem, Nat.reduceEqDiff, Nat.reduceAdd, Nat.reduceSub, Nat.reduceMul, Nat.reduceLT, Nat.reduceLeDiff, Nat.reduceMod, Nat.reduceDiv, Int.reduceToNat, Int.reduceLT, Int.reduceLE, Bool.not_true, Bool.not_false, reduceIte, Int.reduceEq, Int.reduceBEq, Int.reduceBNe, Int.reduceGT, Int.reduceGE, Int.reduceNeg, Int.reduceAdd, Int.reduceSub, Nat.reduceBEq, decide_true, decide_false, undef, beq_self_eq_true, bne_self_eq_false, Bool.and_true, Bool.true_and, Bool.and_false, Bool.false_and, Bool.or_true, Bool.true_or, Bool.or_false, Bool.false_or]
    refine ACallL.fresh1 h55 rfl ?_
    simp only [go_sem, Nat.reduceEqDiff, Nat.reduceAdd, Nat.reduceSub, Nat.reduceMul, Nat.reduceLT, Nat.reduceLeDiff, Nat.reduceMod, Nat.reduceDiv, Int.reduceToNat, Int.reduceLT, Int.reduceLE, Bool.not_true, Bool.not_false, reduceIte, Int.reduceEq, Int.reduceBEq, Int.reduceBNe, Int.reduceGT, Int.reduceGE, Int.reduceNeg, Int.reduceAdd, Int.reduceSub, Nat.reduceBEq, decide_true, decide_false, undef, beq_self_eq_true, bne_self_eq_false, Bool.and_true, Bool.true_and, Bool.and_false, Bool.false_and, Bool.or_true, Bool.true_or, Bool.or_false, Bool.false_or, List.length_map]
    exact finL_ret [] ⟨rfl, rfl, rfl, rfl, _, rfl, res_mk (by simp only [specCount, hok]; rfl)⟩

/-! ### In how many truths it is up in an hour -/
def manyN (f : Fl) (h : Nat) : Nat := (truths f).countP fun ks => upAt f ks h
theorem truths_k3 {f : Fl} {ks : List Nat} (h : ks ∈ truths f) : ∀ k ∈ ks, k < 3 := fun k hk => by
  obtain ⟨i, hi⟩ := List.getElem?_of_mem hk
  have := ((kls_mem f _ _ _).1 (truths_rows h)).2 i k hi
  exact ((kset_mem _ _).1 this).1
theorem upAt_get {f : Fl} {ks : List Nat} {h : Nat} (hh : h < ks.length) : (ups f ks)[h]? = some (upAt f ks h) := by
  rw [List.getElem?_eq_getElem (by rw [upsP_len]; exact hh), upAt, List.getD_eq_getElem?_getD, List.getElem?_eq_getElem (by rw [upsP_len]; exact hh)]; rfl

set_option maxRecDepth 4000 in
theorem many_ok (f : Fl) (hf : f.OK) (h : Nat) (hh : h < f.hs.length) : ACall Tryd.prog 54 [.t (.agg (fl5 f)), .t (tKs (truths f)), .t (vi h)] [] (ret (vi (manyN f h))) := by
  refine ACall.walk k54 ?_
  unfold c54 fl5
  have hle := truths_le f hf
  have hn := hf.nh
  have hq := hf.quiet.1
  simp only [go_sem, Nat.reduceEqDiff, Nat.reduceAdd, Nat.reduceSub, Nat.reduceMul, Nat.reduceLT, Nat.reduceLeDiff, Nat.reduceMod, Nat.reduceDiv, Int.reduceToNat, Int.reduceLT, Int.reduceLE, Bool.not_true, Bool.not_false, reduceIte, Int.reduceEq, Int.reduceBEq, Int.reduceBNe, Int.reduceGT, Int.reduceGE, Int.reduceNeg, Int.reduceAdd, Int.reduceSub, Nat.reduceBEq, decide_true, decide_false, undef, beq_self_eq_true, bne_self_eq_false, Bool.and_true, Bool.true_and, Bool.and_false, Bool.false_and, Bool.or_true, Bool.true_or, Bool.or_false, Bool.false_or]
  refine awpL_loopK (truths f).length (fun j s => s = { env := [(8, .t (vi j)), (7, .t (vi (((truths f).take j).countP fun ks => upAt f ks h : Nat))), (1, .t (tKs (truths f))), (2, .t (vi h)), (3, .ptr 0 0)], σ := [.cells ((fl5 f).map .t)] }) ⟨_, Sub.gc [0] [8, 7, 1, 2, 3] rfl rfl, rfl⟩ ?_
  rintro j s hj rfl
  simp only [fl5, go_sem, Nat.reduceEqDiff, Nat.reduceAdd, Nat.reduceSub, Nat.reduceMul, Nat.reduceLT, Nat.reduceLeDiff, Nat.reduceMod, Nat.reduceDiv, Int.reduceToNat, Int.reduceLT, Int.reduceLE, Bool.not_true, Bool.not_false, reduceIte, Int.reduceEq, Int.reduceBEq, Int.reduceBNe, Int.reduceGT, Int.reduceGE, Int.reduceNeg, Int.reduceAdd, Int.reduceSub, Nat.reduceBEq, decide_true, decide_false, undef, beq_self_eq_true, bne_self_eq_false, Bool.and_true, Bool.true_and, Bool.and_false, Bool.false_and, Bool.or_true, Bool.true_or, Bool.or_false, Bool.false_or, List.length_map]
  refine BrL.mk (fun g => ?_) (fun g => ?_)
  · have hj' : j < (truths f).length := by simp at g; omega
    have hg : (truths f)[j]? = some (truths f)[j] := List.getElem?_eq_getElem hj'
    have hw : IntKind.i64.wrap ((j : Int) + 1) = ((j + 1 : Nat) : Int) := by rw [wrap_id (by omega) (by omega)]; omega
    have hmem := List.getElem_mem hj'
    have hcp := countP_take (fun ks => upAt f ks h) (truths f) j _ hg
    have hcl : ((truths f).take j).countP (fun ks => upAt f ks h) ≤ j := Nat.le_trans List.countP_le_length (by rw [List.length_take]; omega)
    generalize (truths f)[j] = ks at *
    have hkl := truths_len hmem
    have h58 := raised_ok f hq ks (by omega) (truths_k3 hmem)
    have hu := upAt_get (f := f) (ks := ks) (h := h) (by omega)
    generalize ((truths f).take j).countP (fun ks => upAt f ks h) = c at *
    have hwc : IntKind.i64.wrap ((c : Int) + 1) = ((c + 1 : Nat) : Int) := by rw [wrap_id (by omega) (by omega)]; omega
    simp only [fl5, tK] at h58
    simp only [g, go_sem, Nat.reduceEqDiff, Nat.reduceAdd, Nat.reduceSub, Nat.reduceMul, Nat.reduceLT, Nat.reduceLeDiff, Nat.reduceMod, Nat.reduceDiv, Int.reduceToNat, Int.reduceLT, Int.reduceLE, Bool.not_true, Bool.not_false, reduceIte, Int.reduceEq, Int.reduceBEq, Int.reduceBNe, Int.reduceGT, Int.reduceGE, Int.reduceNeg, Int.reduceAdd, Int.reduceSub, Nat.reduceBEq, decide_true, decide_false, undef, beq_self_eq_true, bne_self_eq_false, Bool.and_true, Bool.true_and, Bool.and_false, Bool.false_and, Bool.or_true, Bool.true_or, Bool.or_false, Bool.false_or, List.length_map, List.getElem?_map, hg, tK]
    refine ACallL.fresh1 h58 rfl ?_
    cases hb : upAt f ks h
    · rw [hb] at hcp
      simp only [go_sem, Nat.reduceEqDiff, Nat.reduceAdd, Nat.reduceSub, Nat.reduceMul, Nat.reduceLT, Nat.reduceLeDiff, Nat.reduceMod, Nat.reduceDiv, Int.reduceToNat, Int.reduceLT, Int.reduceLE, Bool.not_true, Bool.not_false, reduceIte, Int.reduceEq, Int.reduceBEq, Int.reduceBNe, Int.reduceGT, Int.reduceGE, Int.reduceNeg, Int.reduceAdd, Int.reduceSub, Nat.reduceBEq, decide_true, decide_false, undef, beq_self_eq_true, bne_self_eq_false, Bool.and_true, Bool.true_and, Bool.and_false, Bool.false_and, Bool.or_true, Bool.true_or, Bool.or_false, Bool.false_or, List.length_map, List.getElem?_map, hg, tK, hu, hb, hw]
      refine ⟨hj', _, Sub.gc [0] [8, 7, 1, 2, 3] rfl rfl, ?_⟩
      rw [hcp]
      rfl
    · rw [hb] at hcp
      simp only [go_sem, Nat.reduceEqDiff, Nat.reduceAdd, Nat.reduceSub, Nat.reduceMul, Nat.reduceLT, Nat.reduceLeDiff, Nat.reduceMod, Nat.reduceDiv, Int.reduceToNat, Int.reduceLT, Int.reduceLE, Bool.not_true, Bool.not_false, reduceIte, Int.reduceEq, Int.reduceBEq, Int.reduceBNe, Int.reduceGT, Int.reduceGE, Int.reduceNeg, Int.reduceAdd, Int.reduceSub, Nat.reduceBEq, decide_true, decide_false, undef, beq_self_eq_true, bne_self_eq_false, Bool.and_true, Bool.true_and, Bool.and_false, Bool.false_and, Bool.or_true, Bool.true_or, Bool.or_false, Bool.false_or, List.length_map, List.getElem?_map, hg, tK, hu, hb, hw, hwc]
      refine ⟨hj', _, Sub.gc [0] [8, 7, 1, 2, 3] rfl rfl, ?_⟩
      rw [hcp]
      rfl
  · have hjn : j = (truths f).length := by simp at g; omega
    subst hjn
    simp only [g, go_sem, Nat.reduceEqDiff, Nat.reduceAdd, Nat.reduceSub, Nat.reduceMul, Nat.reduceLT, Nat.reduceLeDiff, Nat.reduceMod, Nat.reduceDiv, Int.reduceToNat, Int.reduceLT, Int.reduceLE, Bool.not_true, Bool.not_false, reduceIte, Int.reduceEq, Int.reduceBEq, Int.reduceBNe, Int.reduceGT, Int.reduceGE, Int.reduceNeg, Int.reduceAdd, Int.reduceSub, Nat.reduceBEq, decide_true, decide_false, undef, beq_self_eq_true, bne_self_eq_false, Bool.and_true, Bool.true_and, Bool.and_false, Bool.false_and, Bool.or_true, Bool.true_or, Bool.or_false, Bool.false_or]
    exact finL_ret [] ⟨rfl, rfl, rfl, rfl, _, rfl, res_mk (by rw [List.take_length]; rfl)⟩

theorem manyN_all (f : Fl) (h : Nat) : (manyN f h = (truths f).length) ↔ sure f h = true := by
  unfold manyN sure
  rw [List.countP_eq_length, List.all_eq_true]
theorem manyN_any (f : Fl) (h : Nat) : (0 < manyN f h) ↔ perh f h = true := by
  unfold manyN perh
  rw [List.countP_pos_iff, List.any_eq_true]

set_option maxRecDepth 4000 in
theorem rUp_ok (f : Fl) (hl : f.hs.length < 9223372036854775808 ∧ f.ss.length < 9223372036854775808) : ACall Tryd.prog 18 [.t (.agg (fl5 f))] [] (res (twoE (specUp f).1 (specUp f).2.1 (specUp f).2.2)) := by
  refine ACall.walk k18 ?_
  have h53 := rtold_ok f true hl
  unfold c18 fl5
  simp only [fl5] at h53
  simp only [go_sem, Nat.reduceEqDiff, Nat.reduceAdd, Nat.reduceSub, Nat.reduceMul, Nat.reduceLT, Nat.reduceLeDiff, Nat.reduceMod, Nat.reduceDiv, Int.reduceToNat, Int.reduceLT, Int.reduceLE, Bool.not_true, Bool.not_false, reduceIte, Int.reduceEq, Int.reduceBEq, Int.reduceBNe, Int.reduceGT, Int.reduceGE, Int.reduceNeg, Int.reduceAdd, Int.reduceSub, Nat.reduceBEq, decide_true, decide_false, undef, beq_self_eq_true, bne_self_eq_false, Bool.and_true, Bool.true_and, Bool.and_false, Bool.false_and, Bool.or_true, Bool.true_or, Bool.or_false, Bool.false_or]
  refine ACallL.fresh1 h53 rfl ?_
  cases hok : f.ok
  · simp only [toldO, hok, go_sem, Nat.reduceEqDiff, Nat.reduceAdd, Nat.reduceSub, Nat.reduceMul, Nat.reduceLT, Nat.reduceLeDiff, Nat.reduceMod, Nat.reduceDiv, Int.reduceToNat, Int.reduceLT, Int.reduceLE, Bool.not_true, Bool.not_false, reduceIte, Int.reduceEq, Int.reduceBEq, Int.reduceBNe, Int.reduceGT, Int.reduceGE, Int.reduceNeg, Int.reduceAdd, Int.reduceSub, Nat.reduceBEq, decide_true, decide_false, undef, beq_self_eq_true, bne_self_eq_false, Bool.and_true, Bool.true_and, Bool.and_false, Bool.false_and, Bool.or_true, Bool.true_or, Bool.or_false, Bool.false_or]
    exact finL_ret [] ⟨rfl, rfl, rfl, rfl, _, rfl, res_mk (by simp only [specUp, hok]; rfl)⟩
  · have hf := (Fl.ok_iff f).1 hok
    have hn := hf.nh
    cases hT : noT f
    rotate_left
    · simp only [toldO, hok, hT, go_sem, Nat.reduceEqDiff, Nat.reduceAdd, Nat.reduceSub, Nat.reduceMul, Nat.reduceLT, Nat.reduceLeDiff, Nat.reduceMod, Nat.reduceDiv, Int.reduceToNat, Int.reduceLT, Int.reduceLE, Bool.not_true, Bool.not_false, reduceIte, Int.reduceEq, Int.reduceBEq, Int.reduceBNe, Int.reduceGT, Int.reduceGE, Int.reduceNeg, Int.reduceAdd, Int.reduceSub, Nat.reduceBEq, decide_true, decide_false, undef, beq_self_eq_true, bne_self_eq_false, Bool.and_true, Bool.true_and, Bool.and_false, Bool.false_and, Bool.or_true, Bool.true_or, Bool.or_false, Bool.false_or]
      exact finL_ret [] ⟨rfl, rfl, rfl, rfl, _, rfl, res_mk (by simp only [specUp, hok, hT]; rfl)⟩
    · simp only [toldO, hok, hT, go_sem, Nat.reduceEqDiff, Nat.reduceAdd, Nat.reduceSub, Nat.reduceMul, Nat.reduceLT, Nat.reduceLeDiff, Nat.reduceMod, Nat.reduceDiv, Int.reduceToNat, Int.reduceLT, Int.reduceLE, Bool.not_true, Bool.not_false, reduceIte, Int.reduceEq, Int.reduceBEq, Int.reduceBNe, Int.reduceGT, Int.reduceGE, Int.reduceNeg, Int.reduceAdd, Int.reduceSub, Nat.reduceBEq, decide_true, decide_false, undef, beq_self_eq_true, bne_self_eq_false, Bool.and_true, Bool.true_and, Bool.and_false, Bool.false_and, Bool.or_true, Bool.true_or, Bool.or_false, Bool.false_or]
      refine awpL_loopK f.hs.length (fun j s => s = { env := [(9, .t (vi j)), (7, .t (vi (maskOf (sure f) j : Nat))), (8, .t (vi (maskOf (perh f) j : Nat))), (5, .t (tKs (truths f))), (1, .ptr 0 0)], σ := [.cells ((fl5 f).map .t)] }) ⟨_, Sub.gc [0] [9, 7, 8, 5, 1] rfl rfl, rfl⟩ ?_
      rintro j s hj rfl
      simp only [fl5, go_sem, Nat.reduceEqDiff, Nat.reduceAdd, Nat.reduceSub, Nat.reduceMul, Nat.reduceLT, Nat.reduceLeDiff, Nat.reduceMod, Nat.reduceDiv, Int.reduceToNat, Int.reduceLT, Int.reduceLE, Bool.not_true, Bool.not_false, reduceIte, Int.reduceEq, Int.reduceBEq, Int.reduceBNe, Int.reduceGT, Int.reduceGE, Int.reduceNeg, Int.reduceAdd, Int.reduceSub, Nat.reduceBEq, decide_true, decide_false, undef, beq_self_eq_true, bne_self_eq_false, Bool.and_true, Bool.true_and, Bool.and_false, Bool.false_and, Bool.or_true, Bool.true_or, Bool.or_false, Bool.false_or, List.length_map]
      refine BrL.mk (fun g => ?_) (fun g => ?_)
      · have hj' : j < f.hs.length := by simp at g; omega
        have hw : IntKind.i64.wrap ((j : Int) + 1) = ((j + 1 : Nat) : Int) := by rw [wrap_id (by omega) (by omega)]; omega
        have h54 := many_ok f hf j hj'
        have hl1 := maskOf_lt (sure f) j
        have hl2 := maskOf_lt (perh f) j
        have hp : 2 ^ j ≤ 512 := Nat.pow_le_pow_right (n := 2) (by decide) (show j ≤ 9 by omega)
        have hs1 : maskOf (sure f) (j + 1) = if sure f j then maskOf (sure f) j ||| 2 ^ j else maskOf (sure f) j := rfl
        have hs2 : maskOf (perh f) (j + 1) = if perh f j then maskOf (perh f) j ||| 2 ^ j else maskOf (perh f) j := rfl
        rw [or_add hl1] at hs1
        rw [or_add hl2] at hs2
        have hp49 := power_ok j (by omega)
        have ha := manyN_all f j
        have hy := manyN_any f j
        generalize maskOf (sure f) j = m1 at *
        generalize maskOf (perh f) j = m2 at *
        generalize 2 ^ j = q at *
        have w1 : IntKind.i64.wrap ((m1 : Int) + q) = ((m1 + q : Nat) : Int) := by rw [wrap_id (by omega) (by omega)]; omega
        have w2 : IntKind.i64.wrap ((m2 : Int) + q) = ((m2 + q : Nat) : Int) := by rw [wrap_id (by omega) (by omega)]; omega
        have c1 : (((manyN f j : Nat) : Int) == ((truths f).length : Int)) = sure f j := by
          rw [Bool.eq_iff_iff, ← ha, beq_iff_eq]; omega
        have c2 : decide (((manyN f j : Nat) : Int) > 0) = perh f j := by
          rw [Bool.eq_iff_iff, ← hy, decide_eq_true_eq]; omega
        simp only [fl5] at h54
        simp only [g, go_sem, Nat.reduceEqDiff, Nat.reduceAdd, Nat.reduceSub, Nat.reduceMul, Nat.reduceLT, Nat.reduceLeDiff, Nat.reduceMod, Nat.reduceDiv, Int.reduceToNat, Int.reduceLT, Int.reduceLE, Bool.not_true, Bool.not_false, reduceIte, Int.reduceEq, Int.reduceBEq, Int.reduceBNe, Int.reduceGT, Int.reduceGE, Int.reduceNeg, Int.reduceAdd, Int.reduceSub, Nat.reduceBEq, decide_true, decide_false, undef, beq_self_eq_true, bne_self_eq_false, Bool.and_true, Bool.true_and, Bool.and_false, Bool.false_and, Bool.or_true, Bool.true_or, Bool.or_false, Bool.false_or]
        refine ACallL.fresh1 h54 rfl ?_
        simp only [go_sem, Nat.reduceEqDiff, Nat.reduceAdd, Nat.reduceSub, Nat.reduceMul, Nat.reduceLT, Nat.reduceLeDiff, Nat.reduceMod, Nat.reduceDiv, Int.reduceToNat, Int.reduceLT, Int.reduceLE, Bool.not_true, Bool.not_false, reduceIte, Int.reduceEq, Int.reduceBEq, Int.reduceBNe, Int.reduceGT, Int.reduceGE, Int.reduceNeg, Int.reduceAdd, Int.reduceSub, Nat.reduceBEq, decide_true, decide_false, undef, beq_self_eq_true, bne_self_eq_false, Bool.and_true, Bool.true_and, Bool.and_false, Bool.false_and, Bool.or_true, Bool.true_or, Bool.or_false, Bool.false_or, List.length_map, c1]
        refine BrL.mk (fun b1 => ?_) (fun b1 => ?_)
        · rw [b1] at hs1
          simp only [b1, go_sem, Nat.reduceEqDiff, Nat.reduceAdd, Nat.reduceSub, Nat.reduceMul, Nat.reduceLT, Nat.reduceLeDiff, Nat.reduceMod, Nat.reduceDiv, Int.reduceToNat, Int.reduceLT, Int.reduceLE, Bool.not_true, Bool.not_false, reduceIte, Int.reduceEq, Int.reduceBEq, Int.reduceBNe, Int.reduceGT, Int.reduceGE, Int.reduceNeg, Int.reduceAdd, Int.reduceSub, Nat.reduceBEq, decide_true, decide_false, undef, beq_self_eq_true, bne_self_eq_false, Bool.and_true, Bool.true_and, Bool.and_false, Bool.false_and, Bool.or_true, Bool.true_or, Bool.or_false, Bool.false_or, List.length_map]
          refine ACallL.quiet1 hp49 rfl rfl rfl ?_
          simp only [go_sem, Nat.reduceEqDiff, Nat.reduceAdd, Nat.reduceSub, Nat.reduceMul, Nat.reduceLT, Nat.reduceLeDiff, Nat.reduceMod, Nat.reduceDiv, Int.reduceToNat, Int.reduceLT, Int.reduceLE, Bool.not_true, Bool.not_false, reduceIte, Int.reduceEq, Int.reduceBEq, Int.reduceBNe, Int.reduceGT, Int.reduceGE, Int.reduceNeg, Int.reduceAdd, Int.reduceSub, Nat.reduceBEq, decide_true, decide_false, undef, beq_self_eq_true, bne_self_eq_false, Bool.and_true, Bool.true_and, Bool.and_false, Bool.false_and, Bool.or_true, Bool.true_or, Bool.or_false, Bool.false_or, w1, c2]
          refine BrL.mk (fun b2 => ?_) (fun b2 => ?_)
          · rw [b2] at hs2
            simp only [b2, go_sem, Nat.reduceEqDiff, Nat.reduceAdd, Nat.reduceSub, Nat.reduceMul, Nat.reduceLT, Nat.reduceLeDiff, Nat.reduceMod, Nat.reduceDiv, Int.reduceToNat, Int.reduceLT, Int.reduceLE, Bool.not_true, Bool.not_false, reduceIte, Int.reduceEq, Int.reduceBEq, Int.reduceBNe, Int.reduceGT, Int.reduceGE, Int.reduceNeg, Int.reduceAdd, Int.reduceSub, Nat.reduceBEq, decide_true, decide_false, undef, beq_self_eq_true, bne_self_eq_false, Bool.and_true, Bool.true_and, Bool.and_false, Bool.false_and, Bool.or_true, Bool.true_or, Bool.or_false, Bool.false_or]
            refine ACallL.quiet1 hp49 rfl rfl rfl ?_
            simp only [go_sem, Nat.reduceEqDiff, Nat.reduceAdd, Nat.reduceSub, Nat.reduceMul, Nat.reduceLT, Nat.reduceLeDiff, Nat.reduceMod, Nat.reduceDiv, Int.reduceToNat, Int.reduceLT, Int.reduceLE, Bool.not_true, Bool.not_false, reduceIte, Int.reduceEq, Int.reduceBEq, Int.reduceBNe, Int.reduceGT, Int.reduceGE, Int.reduceNeg, Int.reduceAdd, Int.reduceSub, Nat.reduceBEq, decide_true, decide_false, undef, beq_self_eq_true, bne_self_eq_false, Bool.and_true, Bool.true_and, Bool.and_false, Bool.false_and, Bool.or_true, Bool.true_or, Bool.or_false, Bool.false_or, w2, hw]
            refine ⟨hj', _, Sub.gc [0] [9, 7, 8, 5, 1] rfl rfl, ?_⟩
            rw [hs1, hs2]
            rfl
          · rw [b2] at hs2
            simp only [b2, go_sem, Nat.reduceEqDiff, Nat.reduceAdd, Nat.reduceSub, Nat.reduceMul, Nat.reduceLT, Nat.reduceLeDiff, Nat.reduceMod, Nat.reduceDiv, Int.reduceToNat, Int.reduceLT, Int.reduceLE, Bool.not_true, Bool.not_false, reduceIte, Int.reduceEq, Int.reduceBEq, Int.reduceBNe, Int.reduceGT, Int.reduceGE, Int.reduceNeg, Int.reduceAdd, Int.reduceSub, Nat.reduceBEq, decide_true, decide_false, undef, beq_self_eq_true, bne_self_eq_false, Bool.and_true, Bool.true_and, Bool.and_false, Bool.false_and, Bool.or_true, Bool.true_or, Bool.or_false, Bool.false_or, hw]
            refine ⟨hj', _, Sub.gc [0] [9, 7, 8, 5, 1] rfl rfl, ?_⟩
            rw [hs1, hs2]
            rfl
        · rw [b1] at hs1
          simp only [b1, go_sem, Nat.reduceEqDiff, Nat.reduceAdd, Nat.reduceSub, Nat.reduceMul, Nat.reduceLT, Nat.reduceLeDiff, Nat.reduceMod, Nat.reduceDiv, Int.reduceToNat, Int.reduceLT, Int.reduceLE, Bool.not_true, Bool.not_false, reduceIte, Int.reduceEq, Int.reduceBEq, Int.reduceBNe, Int.reduceGT, Int.reduceGE, Int.reduceNeg, Int.reduceAdd, Int.reduceSub, Nat.reduceBEq, decide_true, decide_false, undef, beq_self_eq_true, bne_self_eq_false, Bool.and_true, Bool.true_and, Bool.and_false, Bool.false_and, Bool.or_true, Bool.true_or, Bool.or_false, Bool.false_or, c2]
          refine BrL.mk (fun b2 => ?_) (fun b2 => ?_)
          · rw [b2] at hs2
            simp only [b2, go_sem, Nat.reduceEqDiff, Nat.reduceAdd, Nat.reduceSub, Nat.reduceMul, Nat.reduceLT, Nat.reduceLeDiff, Nat.reduceMod, Nat.reduceDiv, Int.reduceToNat, Int.reduceLT, Int.reduceLE, Bool.not_true, Bool.not_false, reduceIte, Int.reduceEq, Int.reduceBEq, Int.reduceBNe, Int.reduceGT, Int.reduceGE, Int.reduceNeg, Int.reduceAdd, Int.reduceSub, Nat.reduceBEq, decide_true, decide_false, undef, beq_self_eq_true, bne_self_eq_false, Bool.and_true, Bool.true_and, Bool.and_false, Bool.false_and, Bool.or_true, Bool.true_or, Bool.or_false, Bool.false_or]
            refine ACallL.quiet1 hp49 rfl rfl rfl ?_
            simp only [go_sem, Nat.reduceEqDiff, Nat.reduceAdd, Nat.reduceSub, Nat.reduceMul, Nat.reduceLT, Nat.reduceLeDiff, Nat.reduceMod, Nat.reduceDiv, Int.reduceToNat, Int.reduceLT, Int.reduceLE, Bool.not_true, Bool.not_false, reduceIte, Int.reduceEq, Int.reduceBEq, Int.reduceBNe, Int.reduceGT, Int.reduceGE, Int.reduceNeg, Int.reduceAdd, Int.reduceSub, Nat.reduceBEq, decide_true, decide_false, undef, beq_self_eq_true, bne_self_eq_false, Bool.and_true, Bool.true_and, Bool.and_false, Bool.false_and, Bool.or_true, Bool.true_or, Bool.or_false, Bool.false_or, w2, hw]
            refine ⟨hj', _, Sub.gc [0] [9, 7, 8, 5, 1] rfl rfl, ?_⟩
            rw [hs1, hs2]
            rfl
          · rw [b2] at hs2
            simp only [b2, go_sem, Nat.reduceEqDiff, Nat.reduceAdd, Nat.reduceSub, Nat.reduceMul, Nat.reduceLT, Nat.reduceLeDiff, Nat.reduceMod, Nat.reduceDiv, Int.reduceToNat, Int.reduceLT, Int.reduceLE, Bool.not_true, Bool.not_false, reduceIte, Int.reduceEq, Int.reduceBEq, Int.reduceBNe, Int.reduceGT, Int.reduceGE, Int.reduceNeg, Int.reduceAdd, Int.reduceSub, Nat.reduceBEq, decide_true, decide_false, undef, beq_self_eq_true, bne_self_eq_false, Bool.and_true, Bool.true_and, Bool.and_false, Bool.false_and, Bool.or_true, Bool.true_or, Bool.or_false, Bool.false_or, hw]
            refine ⟨hj', _, Sub.gc [0] [9, 7, 8, 5, 1] rfl rfl, ?_⟩
            rw [hs1, hs2]
            rfl
      · have hjn : j = f.hs.length := by simp at g; omega
        subst hjn
        simp only [g, go_sem, Nat.reduceEqDiff, Nat.reduceAdd, Nat.reduceSub, Nat.reduceMul, Nat.reduceLT, Nat.reduceLeDiff, Nat.reduceMod, Nat.reduceDiv, Int.reduceToNat, Int.reduceLT, Int.reduceLE, Bool.not_true, Bool.not_false, reduceIte, Int.reduceEq, Int.reduceBEq, Int.reduceBNe, Int.reduceGT, Int.reduceGE, Int.reduceNeg, Int.reduceAdd, Int.reduceSub, Nat.reduceBEq, decide_true, decide_false, undef, beq_self_eq_true, bne_self_eq_false, Bool.and_true, Bool.true_and, Bool.and_false, Bool.false_and, Bool.or_true, Bool.true_or, Bool.or_false, Bool.false_or]
        exact finL_ret [] ⟨rfl, rfl, rfl, rfl, _, rfl, res_mk (by simp only [specUp, hok, hT]; rfl)⟩
end Go.Proofs.YtkbjodmpmmnhgaaDoor

/- The document's Long, Under, Down. -/
namespace Go.Proofs.YtkbjodmpmmnhgaaDoor
open Go Go.Ab

theorem upC_empty (a : Int) : ∀ (h : Nat) (l : List Bool), upC a a h l = 0
  | _, [] => rfl
  | h, u :: r => by
    simp only [upC, upC_empty a (h + 1) r]
    rw [if_neg (by omega)]
theorem upC_succ (a b : Nat) (hab : a ≤ b) : ∀ (h : Nat) (l : List Bool), upC a ((b + 1 : Nat) : Int) h l = upC a b h l + if h ≤ b ∧ l.getD (b - h) false = true then 1 else 0
  | h, [] => by simp [upC]
  | h, u :: r => by
    simp only [upC, upC_succ a b hab (h + 1) r]
    by_cases e : h = b
    · subst e
      rw [if_neg (show ¬ (h + 1 ≤ h ∧ r.getD (h - (h + 1)) false = true) by omega)]
      rw [if_neg (show ¬ (u = true ∧ (a : Int) ≤ h ∧ (h : Int) < (h : Nat)) by omega)]
      cases u with
      | true => rw [if_pos ⟨rfl, by omega, by omega⟩, if_pos ⟨Nat.le_refl _, by simp⟩]
      | false => rw [if_neg (by simp), if_neg (by simp)]
    · have e1 : (u = true ∧ (a : Int) ≤ (h : Int) ∧ (h : Int) < ((b + 1 : Nat) : Int)) ↔ (u = true ∧ (a : Int) ≤ (h : Int) ∧ (h : Int) < ((b : Nat) : Int)) := by
        constructor <;> rintro ⟨h1, h2, h3⟩ <;> exact ⟨h1, h2, by omega⟩
      have e2 : (h + 1 ≤ b ∧ r.getD (b - (h + 1)) false = true) ↔ (h ≤ b ∧ (u :: r).getD (b - h) false = true) := by
        constructor
        · rintro ⟨h1, h2⟩
          refine ⟨by omega, ?_⟩
          rw [show b - h = b - (h + 1) + 1 by omega]
          simpa using h2
        · rintro ⟨h1, h2⟩
          refine ⟨by omega, ?_⟩
          rw [show b - h = b - (h + 1) + 1 by omega] at h2
          simpa using h2
      simp only [e1, e2]
      omega
theorem upC_le (a b : Int) : ∀ (h : Nat) (l : List Bool), upC a b h l ≤ l.length
  | _, [] => by simp [upC]
  | h, u :: r => by
    have := upC_le a b (h + 1) r
    simp only [upC, List.length_cons]
    split <;> omega

theorem long_ok (us : List Bool) (a b : Nat) (hab : a ≤ b) (hb : b ≤ us.length) (hl : us.length ≤ 1000) : ACall Tryd.prog 57 [.t (.slice 1 (us.map vb)), .t (vi a), .t (vi b)] [] (ret (vi (upC a b 0 us))) := by
  refine ACall.walk k57 ?_
  unfold c57
  simp only [go_sem, Nat.reduceEqDiff, Nat.reduceAdd, Nat.reduceSub, Nat.reduceMul, Nat.reduceLT, Nat.reduceLeDiff, Nat.reduceMod, Nat.reduceDiv, Int.reduceToNat, Int.reduceLT, Int.reduceLE, Bool.not_true, Bool.not_false, reduceIte, Int.reduceEq, Int.reduceBEq, Int.reduceBNe, Int.reduceGT, Int.reduceGE, Int.reduceNeg, Int.reduceAdd, Int.reduceSub, Nat.reduceBEq, decide_true, decide_false, undef, beq_self_eq_true, bne_self_eq_false, Bool.and_true, Bool.true_and, Bool.and_false, Bool.false_and, Bool.or_true, Bool.true_or, Bool.or_false, Bool.false_or]
  refine awpL_loopK (b - a) (fun j s => s = { env := [(8, .t (vi (a + j : Nat))), (7, .t (vi (upC a (a + j : Nat) 0 us : Nat))), (0, .t (.slice 1 (us.map vb))), (2, .t (vi b))], σ := [] }) ⟨_, Sub.gc [] [8, 7, 0, 2] rfl rfl, by rw [Nat.add_zero, upC_empty]; rfl⟩ ?_
  rintro j s hj rfl
  simp only [go_sem, Nat.reduceEqDiff, Nat.reduceAdd, Nat.reduceSub, Nat.reduceMul, Nat.reduceLT, Nat.reduceLeDiff, Nat.reduceMod, Nat.reduceDiv, Int.reduceToNat, Int.reduceLT, Int.reduceLE, Bool.not_true, Bool.not_false, reduceIte, Int.reduceEq, Int.reduceBEq, Int.reduceBNe, Int.reduceGT, Int.reduceGE, Int.reduceNeg, Int.reduceAdd, Int.reduceSub, Nat.reduceBEq, decide_true, decide_false, undef, beq_self_eq_true, bne_self_eq_false, Bool.and_true, Bool.true_and, Bool.and_false, Bool.false_and, Bool.or_true, Bool.true_or, Bool.or_false, Bool.false_or]
  refine BrL.mk (fun g => ?_) (fun g => ?_)
  · have hj' : j < b - a := by simp at g; omega
    have hw : IntKind.i64.wrap (((a + j : Nat) : Int) + 1) = ((a + (j + 1) : Nat) : Int) := by rw [wrap_id (by omega) (by omega)]; omega
    have hg : us[a + j]? = some us[a + j] := List.getElem?_eq_getElem (by omega)
    have hs := upC_succ a (a + j) (by omega) 0 us
    have hc := upC_le a (a + j : Nat) 0 us
    rw [Nat.sub_zero, List.getD_eq_getElem?_getD, hg, Option.getD_some, show a + j + 1 = a + (j + 1) by omega] at hs
    generalize upC a (a + j : Nat) 0 us = c at *
    have hwc : IntKind.i64.wrap ((c : Int) + 1) = ((c + 1 : Nat) : Int) := by rw [wrap_id (by omega) (by omega)]; omega
    cases hu : us[a + j]
    · rw [hu] at hs hg
      simp only [g, go_sem, Nat.reduceEqDiff, Nat.reduceAdd, Nat.reduceSub, Nat.reduceMul, Nat.reduceLT, Nat.reduceLeDiff, Nat.reduceMod, Nat.reduceDiv, Int.reduceToNat, Int.reduceLT, Int.reduceLE, Bool.not_true, Bool.not_false, reduceIte, Int.reduceEq, Int.reduceBEq, Int.reduceBNe, Int.reduceGT, Int.reduceGE, Int.reduceNeg, Int.reduceAdd, Int.reduceSub, Nat.reduceBEq, decide_true, decide_false, undef, beq_self_eq_true, bne_self_eq_false, Bool.and_true, Bool.true_and, Bool.and_false, Bool.false_and, Bool.or_true, Bool.true_or, Bool.or_false, Bool.false_or, List.length_map, List.getElem?_map, hg, hw]
      refine ⟨hj', _, Sub.gc [] [8, 7, 0, 2] rfl rfl, ?_⟩
      rw [hs, if_neg (by simp)]
      rfl
    · rw [hu] at hs hg
      simp only [g, go_sem, Nat.reduceEqDiff, Nat.reduceAdd, Nat.reduceSub, Nat.reduceMul, Nat.reduceLT, Nat.reduceLeDiff, Nat.reduceMod, Nat.reduceDiv, Int.reduceToNat, Int.reduceLT, Int.reduceLE, Bool.not_true, Bool.not_false, reduceIte, Int.reduceEq, Int.reduceBEq, Int.reduceBNe, Int.reduceGT, Int.reduceGE, Int.reduceNeg, Int.reduceAdd, Int.reduceSub, Nat.reduceBEq, decide_true, decide_false, undef, beq_self_eq_true, bne_self_eq_false, Bool.and_true, Bool.true_and, Bool.and_false, Bool.false_and, Bool.or_true, Bool.true_or, Bool.or_false, Bool.false_or, List.length_map, List.getElem?_map, hg, hw, hwc]
      refine ⟨hj', _, Sub.gc [] [8, 7, 0, 2] rfl rfl, ?_⟩
      rw [hs, if_pos ⟨by omega, rfl⟩]
      rfl
  · have hjn : a + j = b := by simp at g; omega
    simp only [g, go_sem, Nat.reduceEqDiff, Nat.reduceAdd, Nat.reduceSub, Nat.reduceMul, Nat.reduceLT, Nat.reduceLeDiff, Nat.reduceMod, Nat.reduceDiv, Int.reduceToNat, Int.reduceLT, Int.reduceLE, Bool.not_true, Bool.not_false, reduceIte, Int.reduceEq, Int.reduceBEq, Int.reduceBNe, Int.reduceGT, Int.reduceGE, Int.reduceNeg, Int.reduceAdd, Int.reduceSub, Nat.reduceBEq, decide_true, decide_false, undef, beq_self_eq_true, bne_self_eq_false, Bool.and_true, Bool.true_and, Bool.and_false, Bool.false_and, Bool.or_true, Bool.true_or, Bool.or_false, Bool.false_or]
    exact finL_ret [] ⟨rfl, rfl, rfl, rfl, _, rfl, res_mk (by rw [hjn]; rfl)⟩

/-! ### Long -/
theorem foldl_take' {α β : Type} (f : β → α → β) (b : β) (l : List α) (k : Nat) (x : α) (h : l[k]? = some x) : (l.take (k + 1)).foldl f b = f ((l.take k).foldl f b) x := by
  obtain ⟨hk, e⟩ := List.getElem?_eq_some_iff.1 h
  rw [List.take_succ_eq_append_getElem hk, List.foldl_append, e]
  rfl
theorem hullO_fold {l : List Int} {n : Int} (hne : l ≠ []) (h : ∀ x ∈ l, 0 ≤ x ∧ x ≤ n) : hullO l = some (l.foldl min n, l.foldl max 0) := by
  cases l with
  | nil => exact absurd rfl hne
  | cons x r =>
    have := h x (by simp)
    simp only [hullO, List.foldl_cons]
    rw [show min n x = x by omega, show max 0 x = x by omega]

set_option maxRecDepth 4000 in
set_option maxHeartbeats 1000000 in
theorem rLong_ok (f : Fl) (hl : f.hs.length < 9223372036854775808 ∧ f.ss.length < 9223372036854775808) : ACall Tryd.prog 22 [.t (.agg (fl5 f))] [] (res (spanE (specLong f).1 (specLong f).2)) := by
  refine ACall.walk k22 ?_
  have h53 := rtold_ok f true hl
  unfold c22 fl5
  simp only [fl5] at h53
  simp only [go_sem, Nat.reduceEqDiff, Nat.reduceAdd, Nat.reduceSub, Nat.reduceMul, Nat.reduceLT, Nat.reduceLeDiff, Nat.reduceMod, Nat.reduceDiv, Int.reduceToNat, Int.reduceLT, Int.reduceLE, Bool.not_true, Bool.not_false, reduceIte, Int.reduceEq, Int.reduceBEq, Int.reduceBNe, Int.reduceGT, Int.reduceGE, Int.reduceNeg, Int.reduceAdd, Int.reduceSub, Nat.reduceBEq, decide_true, decide_false, undef, beq_self_eq_true, bne_self_eq_false, Bool.and_true, Bool.true_and, Bool.and_false, Bool.false_and, Bool.or_true, Bool.true_or, Bool.or_false, Bool.false_or]
  refine ACallL.fresh1 h53 rfl ?_
  cases hok : f.ok
  · simp only [toldO, hok, go_sem, Nat.reduceEqDiff, Nat.reduceAdd, Nat.reduceSub, Nat.reduceMul, Nat.reduceLT, Nat.reduceLeDiff, Nat.reduceMod, Nat.reduceDiv, Int.reduceToNat, Int.reduceLT, Int.reduceLE, Bool.not_true, Bool.not_false, reduceIte, Int.reduceEq, Int.reduceBEq, Int.reduceBNe, Int.reduceGT, Int.reduceGE, Int.reduceNeg, Int.reduceAdd, Int.reduceSub, Nat.reduceBEq, decide_true, decide_false, undef, beq_self_eq_true, bne_self_eq_false, Bool.and_true, Bool.true_and, Bool.and_false, Bool.false_and, Bool.or_true, Bool.true_or, Bool.or_false, Bool.false_or]
    exact finL_ret [] ⟨rfl, rfl, rfl, rfl, _, rfl, res_mk (by simp only [specLong, hok]; rfl)⟩
  · have hf := (Fl.ok_iff f).1 hok
    have hn := hf.nh
    have hq := hf.quiet.1
    have hle := truths_le f hf
    cases hT : noT f
    rotate_left
    · have hT' : truths f = [] := by unfold noT at hT; simpa using hT
      simp only [toldO, hok, hT, go_sem, Nat.reduceEqDiff, Nat.reduceAdd, Nat.reduceSub, Nat.reduceMul, Nat.reduceLT, Nat.reduceLeDiff, Nat.reduceMod, Nat.reduceDiv, Int.reduceToNat, Int.reduceLT, Int.reduceLE, Bool.not_true, Bool.not_false, reduceIte, Int.reduceEq, Int.reduceBEq, Int.reduceBNe, Int.reduceGT, Int.reduceGE, Int.reduceNeg, Int.reduceAdd, Int.reduceSub, Nat.reduceBEq, decide_true, decide_false, undef, beq_self_eq_true, bne_self_eq_false, Bool.and_true, Bool.true_and, Bool.and_false, Bool.false_and, Bool.or_true, Bool.true_or, Bool.or_false, Bool.false_or]
      exact finL_ret [] ⟨rfl, rfl, rfl, rfl, _, rfl, res_mk (by simp only [specLong, hok, hullU, hT']; rfl)⟩
    · have hT' : truths f ≠ [] := by unfold noT at hT; simpa using hT
      have hb : ∀ ks ∈ truths f, upN f 0 f.hs.length ks ≤ f.hs.length := fun ks hks => by
        have := upC_le 0 f.hs.length 0 (ups f ks)
        rw [upsP_len, truths_len hks] at this
        exact this
      have hspec : specLong f = (((truths f).foldl (fun a ks => min a ((upN f 0 f.hs.length ks : Nat) : Int)) f.hs.length, (truths f).foldl (fun a ks => max a ((upN f 0 f.hs.length ks : Nat) : Int)) 0), 0) := by
        have := hullO_fold (l := (truths f).map fun ks => ((upN f 0 f.hs.length ks : Nat) : Int)) (n := f.hs.length) (by simpa using hT') (fun x hx => by
          obtain ⟨ks, hks, rfl⟩ := List.mem_map.1 hx
          have := hb ks hks
          omega)
        simp only [specLong, hok, hullU, this, List.foldl_map]
        rfl
      rw [hspec]
      simp only [toldO, hok, hT, go_sem, Nat.reduceEqDiff, Nat.reduceAdd, Nat.reduceSub, Nat.reduceMul, Nat.reduceLT, Nat.reduceLeDiff, Nat.reduceMod, Nat.reduceDiv, Int.reduceToNat, Int.reduceLT, Int.reduceLE, Bool.not_true, Bool.not_false, reduceIte, Int.reduceEq, Int.reduceBEq, Int.reduceBNe, Int.reduceGT, Int.reduceGE, Int.reduceNeg, Int.reduceAdd, Int.reduceSub, Nat.reduceBEq, decide_true, decide_false, undef, beq_self_eq_true, bne_self_eq_false, Bool.and_true, Bool.true_and, Bool.and_false, Bool.false_and, Bool.or_true, Bool.true_or, Bool.or_false, Bool.false_or, List.length_map]
      refine awpL_loopK (truths f).length (fun j s => s = { env := [(7, .t (vi j)), (4, .t (tKs (truths f))), (1, .ptr 0 0), (2, .ptr 1 0), (6, .ptr 2 0)], σ := [.cells ((fl5 f).map .t), .cells [.t (vi 0), .t (vi 0)], .cells [.t (vi (((truths f).take j).foldl (fun a ks => min a ((upN f 0 f.hs.length ks : Nat) : Int)) f.hs.length)), .t (vi (((truths f).take j).foldl (fun a ks => max a ((upN f 0 f.hs.length ks : Nat) : Int)) 0))]] }) ⟨_, Sub.gc [0, 1, 2] [7, 4, 1, 2, 6] rfl rfl, rfl⟩ ?_
      rintro j s hj rfl
      simp only [fl5, go_sem, Nat.reduceEqDiff, Nat.reduceAdd, Nat.reduceSub, Nat.reduceMul, Nat.reduceLT, Nat.reduceLeDiff, Nat.reduceMod, Nat.reduceDiv, Int.reduceToNat, Int.reduceLT, Int.reduceLE, Bool.not_true, Bool.not_false, reduceIte, Int.reduceEq, Int.reduceBEq, Int.reduceBNe, Int.reduceGT, Int.reduceGE, Int.reduceNeg, Int.reduceAdd, Int.reduceSub, Nat.reduceBEq, decide_true, decide_false, undef, beq_self_eq_true, bne_self_eq_false, Bool.and_true, Bool.true_and, Bool.and_false, Bool.false_and, Bool.or_true, Bool.true_or, Bool.or_false, Bool.false_or, List.length_map]
      refine BrL.mk (fun g => ?_) (fun g => ?_)
      · have hj' : j < (truths f).length := by simp at g; omega
        have hg : (truths f)[j]? = some (truths f)[j] := List.getElem?_eq_getElem hj'
        have hw : IntKind.i64.wrap ((j : Int) + 1) = ((j + 1 : Nat) : Int) := by rw [wrap_id (by omega) (by omega)]; omega
        have hmem := List.getElem_mem hj'
        have f1 := foldl_take' (fun a ks => min a ((upN f 0 f.hs.length ks : Nat) : Int)) (f.hs.length : Int) (truths f) j _ hg
        have f2 := foldl_take' (fun a ks => max a ((upN f 0 f.hs.length ks : Nat) : Int)) (0 : Int) (truths f) j _ hg
        generalize (truths f)[j] = ks at *
        have hkl := truths_len hmem
        have h58 := raised_ok f hq ks (by omega) (truths_k3 hmem)
        have h57 := long_ok (ups f ks) 0 f.hs.length (by omega) (by rw [upsP_len]; omega) (by rw [upsP_len]; omega)
        have hu0 : upC ((0 : Nat) : Int) (f.hs.length : Nat) 0 (ups f ks) = upN f 0 f.hs.length ks := rfl
        rw [hu0] at h57
        generalize upN f 0 f.hs.length ks = x at *
        simp only [fl5, tK] at h58
        simp only [g, go_sem, Nat.reduceEqDiff, Nat.reduceAdd, Nat.reduceSub, Nat.reduceMul, Nat.reduceLT, Nat.reduceLeDiff, Nat.reduceMod, Nat.reduceDiv, Int.reduceToNat, Int.reduceLT, Int.reduceLE, Bool.not_true, Bool.not_false, reduceIte, Int.reduceEq, Int.reduceBEq, Int.reduceBNe, Int.reduceGT, Int.reduceGE, Int.reduceNeg, Int.reduceAdd, Int.reduceSub, Nat.reduceBEq, decide_true, decide_false, undef, beq_self_eq_true, bne_self_eq_false, Bool.and_true, Bool.true_and, Bool.and_false, Bool.false_and, Bool.or_true, Bool.true_or, Bool.or_false, Bool.false_or, List.length_map, List.getElem?_map, hg, tK]
        refine ACallL.fresh1 h58 rfl ?_
        simp only [go_sem, Nat.reduceEqDiff, Nat.reduceAdd, Nat.reduceSub, Nat.reduceMul, Nat.reduceLT, Nat.reduceLeDiff, Nat.reduceMod, Nat.reduceDiv, Int.reduceToNat, Int.reduceLT, Int.reduceLE, Bool.not_true, Bool.not_false, reduceIte, Int.reduceEq, Int.reduceBEq, Int.reduceBNe, Int.reduceGT, Int.reduceGE, Int.reduceNeg, Int.reduceAdd, Int.reduceSub, Nat.reduceBEq, decide_true, decide_false, undef, beq_self_eq_true, bne_self_eq_false, Bool.and_true, Bool.true_and, Bool.and_false, Bool.false_and, Bool.or_true, Bool.true_or, Bool.or_false, Bool.false_or, List.length_map, List.getElem?_map, hg, tK]
        refine ACallL.fresh1 h57 rfl ?_
        simp only [go_sem, Nat.reduceEqDiff, Nat.reduceAdd, Nat.reduceSub, Nat.reduceMul, Nat.reduceLT, Nat.reduceLeDiff, Nat.reduceMod, Nat.reduceDiv, Int.reduceToNat, Int.reduceLT, Int.reduceLE, Bool.not_true, Bool.not_false, reduceIte, Int.reduceEq, Int.reduceBEq, Int.reduceBNe, Int.reduceGT, Int.reduceGE, Int.reduceNeg, Int.reduceAdd, Int.reduceSub, Nat.reduceBEq, decide_true, decide_false, undef, beq_self_eq_true, bne_self_eq_false, Bool.and_true, Bool.true_and, Bool.and_false, Bool.false_and, Bool.or_true, Bool.true_or, Bool.or_false, Bool.false_or, List.length_map, List.getElem?_map, hg, tK, hw]
        refine ⟨hj', _, Sub.gc [0, 1, 2] [7, 4, 1, 2, 6] rfl rfl, ?_⟩
        rw [f1, f2]
        rfl
      · have hjn : j = (truths f).length := by simp at g; omega
        subst hjn
        simp only [g, go_sem, Nat.reduceEqDiff, Nat.reduceAdd, Nat.reduceSub, Nat.reduceMul, Nat.reduceLT, Nat.reduceLeDiff, Nat.reduceMod, Nat.reduceDiv, Int.reduceToNat, Int.reduceLT, Int.reduceLE, Bool.not_true, Bool.not_false, reduceIte, Int.reduceEq, Int.reduceBEq, Int.reduceBNe, Int.reduceGT, Int.reduceGE, Int.reduceNeg, Int.reduceAdd, Int.reduceSub, Nat.reduceBEq, decide_true, decide_false, undef, beq_self_eq_true, bne_self_eq_false, Bool.and_true, Bool.true_and, Bool.and_false, Bool.false_and, Bool.or_true, Bool.true_or, Bool.or_false, Bool.false_or]
        exact finL_ret [] ⟨rfl, rfl, rfl, rfl, _, rfl, res_mk (by rw [List.take_length]; rfl)⟩

/-! ### Under -/
theorem hullU_under (f : Fl) (a b : Int) (hT : truths f ≠ []) : ∃ s, hullU f a b = some s ∧ underR s = if (truths f).countP (fun ks => decide (0 < upN f a b ks)) = (truths f).length then 2 else if (truths f).countP (fun ks => decide (0 < upN f a b ks)) = 0 then 0 else 1 := by
  cases hs : hullU f a b with
  | none =>
    unfold hullU at hs
    rw [hullO_none] at hs
    exact absurd (List.map_eq_nil_iff.1 hs) hT
  | some s =>
    refine ⟨s, rfl, ?_⟩
    unfold hullU at hs
    obtain ⟨h1, h2, h3⟩ := hullO_spec hs
    have e1 : s.1 > 0 ↔ (truths f).countP (fun ks => decide (0 < upN f a b ks)) = (truths f).length := by
      rw [List.countP_eq_length]
      constructor
      · intro h ks hks
        have := h3 _ (List.mem_map_of_mem hks)
        simp only [decide_eq_true_eq]
        omega
      · intro h
        obtain ⟨ks, hks, e⟩ := List.mem_map.1 h1
        have := of_decide_eq_true (h ks hks)
        omega
    have e2 : s.2 = 0 ↔ (truths f).countP (fun ks => decide (0 < upN f a b ks)) = 0 := by
      rw [List.countP_eq_zero]
      constructor
      · intro h ks hks
        have := h3 _ (List.mem_map_of_mem hks)
        simp only [decide_eq_true_eq]
        omega
      · intro h
        obtain ⟨ks, hks, e⟩ := List.mem_map.1 h2
        have := h ks hks
        simp only [decide_eq_true_eq] at this
        omega
    unfold underR
    simp only [e1, e2]

set_option maxRecDepth 4000 in
set_option maxHeartbeats 1000000 in
theorem rUnder_ok (f : Fl) (a b : Int) (hl : f.hs.length < 9223372036854775808 ∧ f.ss.length < 9223372036854775808) : ACall Tryd.prog 24 [.t (.agg (fl5 f)), .t (vi a), .t (vi b)] [] (res (oneE (specUnder f a b).1 (specUnder f a b).2)) := by
  refine ACall.walk k24 ?_
  have h53 := rtold_ok f (f.isR a b) hl
  have h47 := rhour_ok f a hl.1
  unfold c24 fl5
  simp only [fl5] at h53 h47
  refine awpL_chop 2 (c1 := ?a1) (c2 := ?a2) (fun s => lk s.env 1 = .t (vi a) ∧ lk s.env 2 = .t (vi b) ∧ lk s.env 3 = .ptr 0 0 ∧ (∃ x y, toldO f (f.isR a b) = .ret (.tup [x, y]) ∧ lk s.env 8 = x ∧ lk s.env 9 = y) ∧ s.σ = [.cells ((fl5 f).map .t)] ∧ s.df = [] ∧ s.k = 0) ?hc ?_ ?_
  case hc => simp only [chop]; rfl
  · have htold : ∃ x y, toldO f (f.isR a b) = .ret (.tup [x, y]) := by
      unfold toldO
      cases f.ok <;> cases f.isR a b <;> cases noT f <;> exact ⟨_, _, rfl⟩
    obtain ⟨x, y, hxy⟩ := htold
    simp only [hxy] at h53
    simp only [go_sem, Nat.reduceEqDiff, Nat.reduceAdd, Nat.reduceSub, Nat.reduceMul, Nat.reduceLT, Nat.reduceLeDiff, Nat.reduceMod, Nat.reduceDiv, Int.reduceToNat, Int.reduceLT, Int.reduceLE, Bool.not_true, Bool.not_false, reduceIte, Int.reduceEq, Int.reduceBEq, Int.reduceBNe, Int.reduceGT, Int.reduceGE, Int.reduceNeg, Int.reduceAdd, Int.reduceSub, Nat.reduceBEq, decide_true, decide_false, undef, beq_self_eq_true, bne_self_eq_false, Bool.and_true, Bool.true_and, Bool.and_false, Bool.false_and, Bool.or_true, Bool.true_or, Bool.or_false, Bool.false_or]
    refine ACallL.quiet1 h47 rfl rfl rfl ?_
    cases hA : f.isH a
    · have hR : f.isR a b = false := by simp only [Fl.isR, hA]; rfl
      rw [hR] at h53
      simp only [go_sem, Nat.reduceEqDiff, Nat.reduceAdd, Nat.reduceSub, Nat.reduceMul, Nat.reduceLT, Nat.reduceLeDiff, Nat.reduceMod, Nat.reduceDiv, Int.reduceToNat, Int.reduceLT, Int.reduceLE, Bool.not_true, Bool.not_false, reduceIte, Int.reduceEq, Int.reduceBEq, Int.reduceBNe, Int.reduceGT, Int.reduceGE, Int.reduceNeg, Int.reduceAdd, Int.reduceSub, Nat.reduceBEq, decide_true, decide_false, undef, beq_self_eq_true, bne_self_eq_false, Bool.and_true, Bool.true_and, Bool.and_false, Bool.false_and, Bool.or_true, Bool.true_or, Bool.or_false, Bool.false_or, hxy]
      refine ACallL.fresh1 h53 rfl ?_
      simp only [go_sem, Nat.reduceEqDiff, Nat.reduceAdd, Nat.reduceSub, Nat.reduceMul, Nat.reduceLT, Nat.reduceLeDiff, Nat.reduceMod, Nat.reduceDiv, Int.reduceToNat, Int.reduceLT, Int.reduceLE, Bool.not_true, Bool.not_false, reduceIte, Int.reduceEq, Int.reduceBEq, Int.reduceBNe, Int.reduceGT, Int.reduceGE, Int.reduceNeg, Int.reduceAdd, Int.reduceSub, Nat.reduceBEq, decide_true, decide_false, undef, beq_self_eq_true, bne_self_eq_false, Bool.and_true, Bool.true_and, Bool.and_false, Bool.false_and, Bool.or_true, Bool.true_or, Bool.or_false, Bool.false_or, hxy]
      exact ⟨⟨_, _, rfl, rfl, rfl⟩, rfl⟩
    · have hw : IntKind.i64.wrap (a + 1) = a + 1 := by
        have := isH_iff.1 hA
        exact wrap_id (by omega) (by omega)
      have hR : f.isR a b = wI b (a + 1) f.hs.length := by simp only [Fl.isR, hA]; rfl
      rw [hR] at h53
      simp only [go_sem, Nat.reduceEqDiff, Nat.reduceAdd, Nat.reduceSub, Nat.reduceMul, Nat.reduceLT, Nat.reduceLeDiff, Nat.reduceMod, Nat.reduceDiv, Int.reduceToNat, Int.reduceLT, Int.reduceLE, Bool.not_true, Bool.not_false, reduceIte, Int.reduceEq, Int.reduceBEq, Int.reduceBNe, Int.reduceGT, Int.reduceGE, Int.reduceNeg, Int.reduceAdd, Int.reduceSub, Nat.reduceBEq, decide_true, decide_false, undef, beq_self_eq_true, bne_self_eq_false, Bool.and_true, Bool.true_and, Bool.and_false, Bool.false_and, Bool.or_true, Bool.true_or, Bool.or_false, Bool.false_or, hw, List.length_map]
      refine ACallL.quiet1 (rin_ok _ _ _) rfl rfl rfl ?_
      simp only [go_sem, Nat.reduceEqDiff, Nat.reduceAdd, Nat.reduceSub, Nat.reduceMul, Nat.reduceLT, Nat.reduceLeDiff, Nat.reduceMod, Nat.reduceDiv, Int.reduceToNat, Int.reduceLT, Int.reduceLE, Bool.not_true, Bool.not_false, reduceIte, Int.reduceEq, Int.reduceBEq, Int.reduceBNe, Int.reduceGT, Int.reduceGE, Int.reduceNeg, Int.reduceAdd, Int.reduceSub, Nat.reduceBEq, decide_true, decide_false, undef, beq_self_eq_true, bne_self_eq_false, Bool.and_true, Bool.true_and, Bool.and_false, Bool.false_and, Bool.or_true, Bool.true_or, Bool.or_false, Bool.false_or, hw, List.length_map]
      refine ACallL.fresh1 h53 rfl ?_
      simp only [go_sem, Nat.reduceEqDiff, Nat.reduceAdd, Nat.reduceSub, Nat.reduceMul, Nat.reduceLT, Nat.reduceLeDiff, Nat.reduceMod, Nat.reduceDiv, Int.reduceToNat, Int.reduceLT, Int.reduceLE, Bool.not_true, Bool.not_false, reduceIte, Int.reduceEq, Int.reduceBEq, Int.reduceBNe, Int.reduceGT, Int.reduceGE, Int.reduceNeg, Int.reduceAdd, Int.reduceSub, Nat.reduceBEq, decide_true, decide_false, undef, beq_self_eq_true, bne_self_eq_false, Bool.and_true, Bool.true_and, Bool.and_false, Bool.false_and, Bool.or_true, Bool.true_or, Bool.or_false, Bool.false_or, hw, List.length_map, hxy]
      exact ⟨⟨_, _, rfl, rfl, rfl⟩, rfl⟩
  rintro ⟨env, σ, df, k⟩ ⟨q1, q2, q3, ⟨x, y, hxy, q8, q9⟩, hσ, hdf, hk⟩
  simp only at q1 q2 q3 q8 q9 hσ hdf hk
  subst hσ hdf hk
  cases hok : f.ok
  · simp only [toldO, hok, Bool.false_eq_true, if_false, Out.ret.injEq, E.tup.injEq, List.cons.injEq, and_true] at hxy
    obtain ⟨rfl, rfl⟩ := hxy
    simp only [go_sem, Nat.reduceEqDiff, Nat.reduceAdd, Nat.reduceSub, Nat.reduceMul, Nat.reduceLT, Nat.reduceLeDiff, Nat.reduceMod, Nat.reduceDiv, Int.reduceToNat, Int.reduceLT, Int.reduceLE, Bool.not_true, Bool.not_false, reduceIte, Int.reduceEq, Int.reduceBEq, Int.reduceBNe, Int.reduceGT, Int.reduceGE, Int.reduceNeg, Int.reduceAdd, Int.reduceSub, Nat.reduceBEq, decide_true, decide_false, undef, beq_self_eq_true, bne_self_eq_false, Bool.and_true, Bool.true_and, Bool.and_false, Bool.false_and, Bool.or_true, Bool.true_or, Bool.or_false, Bool.false_or, q9]
    refine finL_ret [] ⟨rfl, rfl, rfl, rfl, _, rfl, res_mk (by simp only [specUnder, hok]; rfl)⟩
  cases hR : f.isR a b
  · simp only [toldO, hok, hR, Bool.false_eq_true, if_false, if_true, Out.ret.injEq, E.tup.injEq, List.cons.injEq, and_true] at hxy
    obtain ⟨rfl, rfl⟩ := hxy
    simp only [go_sem, Nat.reduceEqDiff, Nat.reduceAdd, Nat.reduceSub, Nat.reduceMul, Nat.reduceLT, Nat.reduceLeDiff, Nat.reduceMod, Nat.reduceDiv, Int.reduceToNat, Int.reduceLT, Int.reduceLE, Bool.not_true, Bool.not_false, reduceIte, Int.reduceEq, Int.reduceBEq, Int.reduceBNe, Int.reduceGT, Int.reduceGE, Int.reduceNeg, Int.reduceAdd, Int.reduceSub, Nat.reduceBEq, decide_true, decide_false, undef, beq_self_eq_true, bne_self_eq_false, Bool.and_true, Bool.true_and, Bool.and_false, Bool.false_and, Bool.or_true, Bool.true_or, Bool.or_false, Bool.false_or, q9]
    refine finL_ret [] ⟨rfl, rfl, rfl, rfl, _, rfl, res_mk (by simp only [specUnder, hok, hR]; rfl)⟩
  have hf := (Fl.ok_iff f).1 hok
  have hn := hf.nh
  have hq := hf.quiet.1
  have hle := truths_le f hf
  cases hT : noT f
  rotate_left
  · have hT' : truths f = [] := by unfold noT at hT; simpa using hT
    simp only [toldO, hok, hR, hT, Bool.false_eq_true, if_false, if_true, Out.ret.injEq, E.tup.injEq, List.cons.injEq, and_true] at hxy
    obtain ⟨rfl, rfl⟩ := hxy
    simp only [go_sem, Nat.reduceEqDiff, Nat.reduceAdd, Nat.reduceSub, Nat.reduceMul, Nat.reduceLT, Nat.reduceLeDiff, Nat.reduceMod, Nat.reduceDiv, Int.reduceToNat, Int.reduceLT, Int.reduceLE, Bool.not_true, Bool.not_false, reduceIte, Int.reduceEq, Int.reduceBEq, Int.reduceBNe, Int.reduceGT, Int.reduceGE, Int.reduceNeg, Int.reduceAdd, Int.reduceSub, Nat.reduceBEq, decide_true, decide_false, undef, beq_self_eq_true, bne_self_eq_false, Bool.and_true, Bool.true_and, Bool.and_false, Bool.false_and, Bool.or_true, Bool.true_or, Bool.or_false, Bool.false_or, q9]
    refine finL_ret [] ⟨rfl, rfl, rfl, rfl, _, rfl, res_mk (by simp only [specUnder, hok, hR, hullU, hT']; rfl)⟩
  have hT' : truths f ≠ [] := by unfold noT at hT; simpa using hT
  simp only [toldO, hok, hR, hT, Bool.false_eq_true, if_false, if_true, Out.ret.injEq, E.tup.injEq, List.cons.injEq, and_true] at hxy
  obtain ⟨rfl, rfl⟩ := hxy
  obtain ⟨s, hs, hu⟩ := hullU_under f a b hT'
  have hsp : specUnder f a b = (underR s, 0) := by simp only [specUnder, hok, hR, hs]; rfl
  rw [hsp, hu]
  have hR' := hR
  unfold Fl.isR wI at hR'
  rw [Bool.and_eq_true, isH_iff, decide_eq_true_eq] at hR'
  obtain ⟨⟨ha0, ha1⟩, hb0, hb1⟩ := hR'
  obtain ⟨a, rfl⟩ : ∃ n : Nat, a = n := ⟨a.toNat, by omega⟩
  obtain ⟨b, rfl⟩ : ∃ n : Nat, b = n := ⟨b.toNat, by omega⟩
  simp only [go_sem, Nat.reduceEqDiff, Nat.reduceAdd, Nat.reduceSub, Nat.reduceMul, Nat.reduceLT, Nat.reduceLeDiff, Nat.reduceMod, Nat.reduceDiv, Int.reduceToNat, Int.reduceLT, Int.reduceLE, Bool.not_true, Bool.not_false, reduceIte, Int.reduceEq, Int.reduceBEq, Int.reduceBNe, Int.reduceGT, Int.reduceGE, Int.reduceNeg, Int.reduceAdd, Int.reduceSub, Nat.reduceBEq, decide_true, decide_false, undef, beq_self_eq_true, bne_self_eq_false, Bool.and_true, Bool.true_and, Bool.and_false, Bool.false_and, Bool.or_true, Bool.true_or, Bool.or_false, Bool.false_or, q9]
  refine awpL_loopK (truths f).length (fun j s => s = { env := [(11, .t (vi j)), (10, .t (vi (((truths f).take j).countP (fun ks => decide (0 < upN f a b ks)) : Nat))), (8, .t (tKs (truths f))), (1, .t (vi a)), (2, .t (vi b)), (3, .ptr 0 0)], σ := [.cells ((fl5 f).map .t)] })
    ⟨_, Sub.gc [0] [11, 10, 8, 1, 2, 3] rfl rfl, St.gc_mk (by simp only [List.map_cons, List.map_nil, lk, Nat.reduceEqDiff, reduceIte, q1, q2, q3, q8]; rfl) rfl rfl rfl⟩ ?_
  rintro j s hj rfl
  simp only [fl5, go_sem, Nat.reduceEqDiff, Nat.reduceAdd, Nat.reduceSub, Nat.reduceMul, Nat.reduceLT, Nat.reduceLeDiff, Nat.reduceMod, Nat.reduceDiv, Int.reduceToNat, Int.reduceLT, Int.reduceLE, Bool.not_true, Bool.not_false, reduceIte, Int.reduceEq, Int.reduceBEq, Int.reduceBNe, Int.reduceGT, Int.reduceGE, Int.reduceNeg, Int.reduceAdd, Int.reduceSub, Nat.reduceBEq, decide_true, decide_false, undef, beq_self_eq_true, bne_self_eq_false, Bool.and_true, Bool.true_and, Bool.and_false, Bool.false_and, Bool.or_true, Bool.true_or, Bool.or_false, Bool.false_or, List.length_map]
  refine BrL.mk (fun g => ?_) (fun g => ?_)
  · have hj' : j < (truths f).length := by simp at g; omega
    have hg : (truths f)[j]? = some (truths f)[j] := List.getElem?_eq_getElem hj'
    have hw : IntKind.i64.wrap ((j : Int) + 1) = ((j + 1 : Nat) : Int) := by rw [wrap_id (by omega) (by omega)]; omega
    have hmem := List.getElem_mem hj'
    have f1 := countP_take (fun ks => decide (0 < upN f a b ks)) (truths f) j _ hg
    have hcl : ((truths f).take j).countP (fun ks => decide (0 < upN f a b ks)) ≤ j := Nat.le_trans List.countP_le_length (by rw [List.length_take]; omega)
    generalize (truths f)[j] = ks at *
    have hkl := truths_len hmem
    have h58 := raised_ok f hq ks (by omega) (truths_k3 hmem)
    have h57 := long_ok (ups f ks) a b (by omega) (by rw [upsP_len]; omega) (by rw [upsP_len]; omega)
    have hu0 : upC (a : Nat) (b : Nat) 0 (ups f ks) = upN f a b ks := rfl
    rw [hu0] at h57
    generalize upN f a b ks = x at *
    generalize ((truths f).take j).countP (fun ks => decide (0 < upN f a b ks)) = c at *
    have hwc : IntKind.i64.wrap ((c : Int) + 1) = ((c + 1 : Nat) : Int) := by rw [wrap_id (by omega) (by omega)]; omega
    simp only [fl5, tK] at h58
    simp only [g, go_sem, Nat.reduceEqDiff, Nat.reduceAdd, Nat.reduceSub, Nat.reduceMul, Nat.reduceLT, Nat.reduceLeDiff, Nat.reduceMod, Nat.reduceDiv, Int.reduceToNat, Int.reduceLT, Int.reduceLE, Bool.not_true, Bool.not_false, reduceIte, Int.reduceEq, Int.reduceBEq, Int.reduceBNe, Int.reduceGT, Int.reduceGE, Int.reduceNeg, Int.reduceAdd, Int.reduceSub, Nat.reduceBEq, decide_true, decide_false, undef, beq_self_eq_true, bne_self_eq_false, Bool.and_true, Bool.true_and, Bool.and_false, Bool.false_and, Bool.or_true, Bool.true_or, Bool.or_false, Bool.false_or, List.length_map, List.getElem?_map, hg, tK]
    refine ACallL.fresh1 h58 rfl ?_
    simp only [go_sem, Nat.reduceEqDiff, Nat.reduceAdd, Nat.reduceSub, Nat.reduceMul, Nat.reduceLT, Nat.reduceLeDiff, Nat.reduceMod, Nat.reduceDiv, Int.reduceToNat, Int.reduceLT, Int.reduceLE, Bool.not_true, Bool.not_false, reduceIte, Int.reduceEq, Int.reduceBEq, Int.reduceBNe, Int.reduceGT, Int.reduceGE, Int.reduceNeg, Int.reduceAdd, Int.reduceSub, Nat.reduceBEq, decide_true, decide_false, undef, beq_self_eq_true, bne_self_eq_false, Bool.and_true, Bool.true_and, Bool.and_false, Bool.false_and, Bool.or_true, Bool.true_or, Bool.or_false, Bool.false_or, List.length_map, List.getElem?_map, hg, tK]
    refine ACallL.fresh1 h57 rfl ?_
    simp only [go_sem, Nat.reduceEqDiff, Nat.reduceAdd, Nat.reduceSub, Nat.reduceMul, Nat.reduceLT, Nat.reduceLeDiff, Nat.reduceMod, Nat.reduceDiv, Int.reduceToNat, Int.reduceLT, Int.reduceLE, Bool.not_true, Bool.not_false, reduceIte, Int.reduceEq, Int.reduceBEq, Int.reduceBNe, Int.reduceGT, Int.reduceGE, Int.reduceNeg, Int.reduceAdd, Int.reduceSub, Nat.reduceBEq, decide_true, decide_false, undef, beq_self_eq_true, bne_self_eq_false, Bool.and_true, Bool.true_and, Bool.and_false, Bool.false_and, Bool.or_true, Bool.true_or, Bool.or_false, Bool.false_or, List.length_map, List.getElem?_map, hg, tK]
    cases hx : decide ((x : Int) > 0)
    · have hx' : decide (0 < x) = false := by simp at hx ⊢; omega
      simp only [go_sem, Nat.reduceEqDiff, Nat.reduceAdd, Nat.reduceSub, Nat.reduceMul, Nat.reduceLT, Nat.reduceLeDiff, Nat.reduceMod, Nat.reduceDiv, Int.reduceToNat, Int.reduceLT, Int.reduceLE, Bool.not_true, Bool.not_false, reduceIte, Int.reduceEq, Int.reduceBEq, Int.reduceBNe, Int.reduceGT, Int.reduceGE, Int.reduceNeg, Int.reduceAdd, Int.reduceSub, Nat.reduceBEq, decide_true, decide_false, undef, beq_self_eq_true, bne_self_eq_false, Bool.and_true, Bool.true_and, Bool.and_false, Bool.false_and, Bool.or_true, Bool.true_or, Bool.or_false, Bool.false_or, List.length_map, List.getElem?_map, hg, tK, hx, hw]
      refine ⟨hj', _, Sub.gc [0] [11, 10, 8, 1, 2, 3] rfl rfl, ?_⟩
      rw [f1, hx']
      rfl
    · have hx' : decide (0 < x) = true := by simp at hx ⊢; omega
      simp only [go_sem, Nat.reduceEqDiff, Nat.reduceAdd, Nat.reduceSub, Nat.reduceMul, Nat.reduceLT, Nat.reduceLeDiff, Nat.reduceMod, Nat.reduceDiv, Int.reduceToNat, Int.reduceLT, Int.reduceLE, Bool.not_true, Bool.not_false, reduceIte, Int.reduceEq, Int.reduceBEq, Int.reduceBNe, Int.reduceGT, Int.reduceGE, Int.reduceNeg, Int.reduceAdd, Int.reduceSub, Nat.reduceBEq, decide_true, decide_false, undef, beq_self_eq_true, bne_self_eq_false, Bool.and_true, Bool.true_and, Bool.and_false, Bool.false_and, Bool.or_true, Bool.true_or, Bool.or_false, Bool.false_or, List.length_map, List.getElem?_map, hg, tK, hx, hw, hwc]
      refine ⟨hj', _, Sub.gc [0] [11, 10, 8, 1, 2, 3] rfl rfl, ?_⟩
      rw [f1, hx']
      rfl
  · have hjn : j = (truths f).length := by simp at g; omega
    subst hjn
    rw [List.take_length]
    generalize (truths f).countP (fun ks => decide (0 < upN f a b ks)) = c at *
    simp only [g, go_sem, Nat.reduceEqDiff, Nat.reduceAdd, Nat.reduceSub, Nat.reduceMul, Nat.reduceLT, Nat.reduceLeDiff, Nat.reduceMod, Nat.reduceDiv, Int.reduceToNat, Int.reduceLT, Int.reduceLE, Bool.not_true, Bool.not_false, reduceIte, Int.reduceEq, Int.reduceBEq, Int.reduceBNe, Int.reduceGT, Int.reduceGE, Int.reduceNeg, Int.reduceAdd, Int.reduceSub, Nat.reduceBEq, decide_true, decide_false, undef, beq_self_eq_true, bne_self_eq_false, Bool.and_true, Bool.true_and, Bool.and_false, Bool.false_and, Bool.or_true, Bool.true_or, Bool.or_false, Bool.false_or, List.length_map]
    cases h1 : ((c : Int) == ((truths f).length : Int))
    · have h1' : ¬ c = (truths f).length := by simp at h1; omega
      rw [if_neg h1']
      cases h2 : ((c : Int) == 0)
      · have h2' : ¬ c = 0 := by simp at h2; omega
        rw [if_neg h2']
        simp only [go_sem, Nat.reduceEqDiff, Nat.reduceAdd, Nat.reduceSub, Nat.reduceMul, Nat.reduceLT, Nat.reduceLeDiff, Nat.reduceMod, Nat.reduceDiv, Int.reduceToNat, Int.reduceLT, Int.reduceLE, Bool.not_true, Bool.not_false, reduceIte, Int.reduceEq, Int.reduceBEq, Int.reduceBNe, Int.reduceGT, Int.reduceGE, Int.reduceNeg, Int.reduceAdd, Int.reduceSub, Nat.reduceBEq, decide_true, decide_false, undef, beq_self_eq_true, bne_self_eq_false, Bool.and_true, Bool.true_and, Bool.and_false, Bool.false_and, Bool.or_true, Bool.true_or, Bool.or_false, Bool.false_or, h1, h2]
        exact finL_ret [] ⟨rfl, rfl, rfl, rfl, _, rfl, res_mk rfl⟩
      · have h2' : c = 0 := by simp at h2; omega
        rw [if_pos h2']
        simp only [go_sem, Nat.reduceEqDiff, Nat.reduceAdd, Nat.reduceSub, Nat.reduceMul, Nat.reduceLT, Nat.reduceLeDiff, Nat.reduceMod, Nat.reduceDiv, Int.reduceToNat, Int.reduceLT, Int.reduceLE, Bool.not_true, Bool.not_false, reduceIte, Int.reduceEq, Int.reduceBEq, Int.reduceBNe, Int.reduceGT, Int.reduceGE, Int.reduceNeg, Int.reduceAdd, Int.reduceSub, Nat.reduceBEq, decide_true, decide_false, undef, beq_self_eq_true, bne_self_eq_false, Bool.and_true, Bool.true_and, Bool.and_false, Bool.false_and, Bool.or_true, Bool.true_or, Bool.or_false, Bool.false_or, h1, h2]
        exact finL_ret [] ⟨rfl, rfl, rfl, rfl, _, rfl, res_mk rfl⟩
    · have h1' : c = (truths f).length := by simp at h1; omega
      rw [if_pos h1']
      simp only [go_sem, Nat.reduceEqDiff, Nat.reduceAdd, Nat.reduceSub, Nat.reduceMul, Nat.reduceLT, Nat.reduceLeDiff, Nat.reduceMod, Nat.reduceDiv, Int.reduceToNat, Int.reduceLT, Int.reduceLE, Bool.not_true, Bool.not_false, reduceIte, Int.reduceEq, Int.reduceBEq, Int.reduceBNe, Int.reduceGT, Int.reduceGE, Int.reduceNeg, Int.reduceAdd, Int.reduceSub, Nat.reduceBEq, decide_true, decide_false, undef, beq_self_eq_true, bne_self_eq_false, Bool.and_true, Bool.true_and, Bool.and_false, Bool.false_and, Bool.or_true, Bool.true_or, Bool.or_false, Bool.false_or, h1]
      exact finL_ret [] ⟨rfl, rfl, rfl, rfl, _, rfl, res_mk rfl⟩

/-! ### Down -/
set_option maxRecDepth 4000 in
theorem rDown_ok (f : Fl) (a : Int) (hl : f.hs.length < 9223372036854775808 ∧ f.ss.length < 9223372036854775808) : ACall Tryd.prog 26 [.t (.agg (fl5 f)), .t (vi a)] [] (res (oneE (specDown f a).1 (specDown f a).2)) := by
  refine ACall.walk k26 ?_
  have h53 := rtold_ok f (f.isH a) hl
  have h47 := rhour_ok f a hl.1
  unfold c26 fl5
  simp only [fl5] at h53 h47
  simp only [go_sem, Nat.reduceEqDiff, Nat.reduceAdd, Nat.reduceSub, Nat.reduceMul, Nat.reduceLT, Nat.reduceLeDiff, Nat.reduceMod, Nat.reduceDiv, Int.reduceToNat, Int.reduceLT, Int.reduceLE, Bool.not_true, Bool.not_false, reduceIte, Int.reduceEq, Int.reduceBEq, Int.reduceBNe, Int.reduceGT, Int.reduceGE, Int.reduceNeg, Int.reduceAdd, Int.reduceSub, Nat.reduceBEq, decide_true, decide_false, undef, beq_self_eq_true, bne_self_eq_false, Bool.and_true, Bool.true_and, Bool.and_false, Bool.false_and, Bool.or_true, Bool.true_or, Bool.or_false, Bool.false_or]
  refine ACallL.quiet1 h47 rfl rfl rfl ?_
  simp only [go_sem, Nat.reduceEqDiff, Nat.reduceAdd, Nat.reduceSub, Nat.reduceMul, Nat.reduceLT, Nat.reduceLeDiff, Nat.reduceMod, Nat.reduceDiv, Int.reduceToNat, Int.reduceLT, Int.reduceLE, Bool.not_true, Bool.not_false, reduceIte, Int.reduceEq, Int.reduceBEq, Int.reduceBNe, Int.reduceGT, Int.reduceGE, Int.reduceNeg, Int.reduceAdd, Int.reduceSub, Nat.reduceBEq, decide_true, decide_false, undef, beq_self_eq_true, bne_self_eq_false, Bool.and_true, Bool.true_and, Bool.and_false, Bool.false_and, Bool.or_true, Bool.true_or, Bool.or_false, Bool.false_or]
  refine ACallL.fresh1 h53 rfl ?_
  cases hok : f.ok
  · simp only [toldO, hok, go_sem, Nat.reduceEqDiff, Nat.reduceAdd, Nat.reduceSub, Nat.reduceMul, Nat.reduceLT, Nat.reduceLeDiff, Nat.reduceMod, Nat.reduceDiv, Int.reduceToNat, Int.reduceLT, Int.reduceLE, Bool.not_true, Bool.not_false, reduceIte, Int.reduceEq, Int.reduceBEq, Int.reduceBNe, Int.reduceGT, Int.reduceGE, Int.reduceNeg, Int.reduceAdd, Int.reduceSub, Nat.reduceBEq, decide_true, decide_false, undef, beq_self_eq_true, bne_self_eq_false, Bool.and_true, Bool.true_and, Bool.and_false, Bool.false_and, Bool.or_true, Bool.true_or, Bool.or_false, Bool.false_or]
    exact finL_ret [] ⟨rfl, rfl, rfl, rfl, _, rfl, res_mk (by simp only [specDown, hok]; rfl)⟩
  cases hB : f.isH a
  · simp only [toldO, hok, hB, go_sem, Nat.reduceEqDiff, Nat.reduceAdd, Nat.reduceSub, Nat.reduceMul, Nat.reduceLT, Nat.reduceLeDiff, Nat.reduceMod, Nat.reduceDiv, Int.reduceToNat, Int.reduceLT, Int.reduceLE, Bool.not_true, Bool.not_false, reduceIte, Int.reduceEq, Int.reduceBEq, Int.reduceBNe, Int.reduceGT, Int.reduceGE, Int.reduceNeg, Int.reduceAdd, Int.reduceSub, Nat.reduceBEq, decide_true, decide_false, undef, beq_self_eq_true, bne_self_eq_false, Bool.and_true, Bool.true_and, Bool.and_false, Bool.false_and, Bool.or_true, Bool.true_or, Bool.or_false, Bool.false_or]
    exact finL_ret [] ⟨rfl, rfl, rfl, rfl, _, rfl, res_mk (by simp only [specDown, hok, hB]; rfl)⟩
  have hf := (Fl.ok_iff f).1 hok
  have hn := hf.nh
  cases hT : noT f
  rotate_left
  · simp only [toldO, hok, hB, hT, go_sem, Nat.reduceEqDiff, Nat.reduceAdd, Nat.reduceSub, Nat.reduceMul, Nat.reduceLT, Nat.reduceLeDiff, Nat.reduceMod, Nat.reduceDiv, Int.reduceToNat, Int.reduceLT, Int.reduceLE, Bool.not_true, Bool.not_false, reduceIte, Int.reduceEq, Int.reduceBEq, Int.reduceBNe, Int.reduceGT, Int.reduceGE, Int.reduceNeg, Int.reduceAdd, Int.reduceSub, Nat.reduceBEq, decide_true, decide_false, undef, beq_self_eq_true, bne_self_eq_false, Bool.and_true, Bool.true_and, Bool.and_false, Bool.false_and, Bool.or_true, Bool.true_or, Bool.or_false, Bool.false_or]
    exact finL_ret [] ⟨rfl, rfl, rfl, rfl, _, rfl, res_mk (by simp only [specDown, hok, hB, hT]; rfl)⟩
  have hsp : specDown f a = match downF f a with | some h => (((h : Nat) : Int), 0) | none => (0, 4) := by simp only [specDown, hok, hB, hT]; rfl
  obtain ⟨h0, h1⟩ := isH_iff.1 hB
  obtain ⟨n, rfl⟩ : ∃ n : Nat, a = n := ⟨a.toNat, by omega⟩
  simp only [toldO, hok, hB, hT, go_sem, Nat.reduceEqDiff, Nat.reduceAdd, Nat.reduceSub, Nat.reduceMul, Nat.reduceLT, Nat.reduceLeDiff, Nat.reduceMod, Nat.reduceDiv, Int.reduceToNat, Int.reduceLT, Int.reduceLE, Bool.not_true, Bool.not_false, reduceIte, Int.reduceEq, Int.reduceBEq, Int.reduceBNe, Int.reduceGT, Int.reduceGE, Int.reduceNeg, Int.reduceAdd, Int.reduceSub, Nat.reduceBEq, decide_true, decide_false, undef, beq_self_eq_true, bne_self_eq_false, Bool.and_true, Bool.true_and, Bool.and_false, Bool.false_and, Bool.or_true, Bool.true_or, Bool.or_false, Bool.false_or]
  refine awpL_loopK (f.hs.length - n) (fun j s => (∀ i < n + j, n ≤ i → perh f i = true) ∧ s = { env := [(8, .t (vi (n + j : Nat))), (6, .t (tKs (truths f))), (2, .ptr 0 0)], σ := [.cells ((fl5 f).map .t)] }) ⟨_, Sub.gc [0] [8, 6, 2] rfl rfl, fun i hi hi2 => by omega, rfl⟩ ?_
  rintro j s hj ⟨hall, rfl⟩
  simp only [fl5, go_sem, Nat.reduceEqDiff, Nat.reduceAdd, Nat.reduceSub, Nat.reduceMul, Nat.reduceLT, Nat.reduceLeDiff, Nat.reduceMod, Nat.reduceDiv, Int.reduceToNat, Int.reduceLT, Int.reduceLE, Bool.not_true, Bool.not_false, reduceIte, Int.reduceEq, Int.reduceBEq, Int.reduceBNe, Int.reduceGT, Int.reduceGE, Int.reduceNeg, Int.reduceAdd, Int.reduceSub, Nat.reduceBEq, decide_true, decide_false, undef, beq_self_eq_true, bne_self_eq_false, Bool.and_true, Bool.true_and, Bool.and_false, Bool.false_and, Bool.or_true, Bool.true_or, Bool.or_false, Bool.false_or, List.length_map]
  refine BrL.mk (fun g => ?_) (fun g => ?_)
  · have hj' : n + j < f.hs.length := by simp at g; omega
    have hw : IntKind.i64.wrap (((n + j : Nat) : Int) + 1) = ((n + (j + 1) : Nat) : Int) := by rw [wrap_id (by omega) (by omega)]; omega
    have h54 := many_ok f hf (n + j) hj'
    have hy := manyN_any f (n + j)
    simp only [fl5] at h54
    simp only [g, go_sem, Nat.reduceEqDiff, Nat.reduceAdd, Nat.reduceSub, Nat.reduceMul, Nat.reduceLT, Nat.reduceLeDiff, Nat.reduceMod, Nat.reduceDiv, Int.reduceToNat, Int.reduceLT, Int.reduceLE, Bool.not_true, Bool.not_false, reduceIte, Int.reduceEq, Int.reduceBEq, Int.reduceBNe, Int.reduceGT, Int.reduceGE, Int.reduceNeg, Int.reduceAdd, Int.reduceSub, Nat.reduceBEq, decide_true, decide_false, undef, beq_self_eq_true, bne_self_eq_false, Bool.and_true, Bool.true_and, Bool.and_false, Bool.false_and, Bool.or_true, Bool.true_or, Bool.or_false, Bool.false_or]
    refine ACallL.fresh1 h54 rfl ?_
    simp only [go_sem, Nat.reduceEqDiff, Nat.reduceAdd, Nat.reduceSub, Nat.reduceMul, Nat.reduceLT, Nat.reduceLeDiff, Nat.reduceMod, Nat.reduceDiv, Int.reduceToNat, Int.reduceLT, Int.reduceLE, Bool.not_true, Bool.not_false, reduceIte, Int.reduceEq, Int.reduceBEq, Int.reduceBNe, Int.reduceGT, Int.reduceGE, Int.reduceNeg, Int.reduceAdd, Int.reduceSub, Nat.reduceBEq, decide_true, decide_false, undef, beq_self_eq_true, bne_self_eq_false, Bool.and_true, Bool.true_and, Bool.and_false, Bool.false_and, Bool.or_true, Bool.true_or, Bool.or_false, Bool.false_or]
    cases hc : (((manyN f (n + j) : Nat) : Int) == 0)
    · have hp : perh f (n + j) = true := hy.1 (by simp at hc; omega)
      simp only [go_sem, Nat.reduceEqDiff, Nat.reduceAdd, Nat.reduceSub, Nat.reduceMul, Nat.reduceLT, Nat.reduceLeDiff, Nat.reduceMod, Nat.reduceDiv, Int.reduceToNat, Int.reduceLT, Int.reduceLE, Bool.not_true, Bool.not_false, reduceIte, Int.reduceEq, Int.reduceBEq, Int.reduceBNe, Int.reduceGT, Int.reduceGE, Int.reduceNeg, Int.reduceAdd, Int.reduceSub, Nat.reduceBEq, decide_true, decide_false, undef, beq_self_eq_true, bne_self_eq_false, Bool.and_true, Bool.true_and, Bool.and_false, Bool.false_and, Bool.or_true, Bool.true_or, Bool.or_false, Bool.false_or, hc, hw]
      refine ⟨by omega, _, Sub.gc [0] [8, 6, 2] rfl rfl, fun i hi hi2 => ?_, rfl⟩
      by_cases e : i = n + j
      · rw [e]; exact hp
      · exact hall i (by omega) hi2
    · have hp : perh f (n + j) = false := by
        rw [← Bool.not_eq_true, ← hy]; simp at hc; omega
      have hD : downF f n = some (n + j) := by
        unfold downF
        rw [List.find?_range_eq_some]
        refine ⟨by rw [hp]; simp; omega, List.mem_range.2 hj', fun i hi => ?_⟩
        by_cases c : n ≤ i
        · rw [hall i hi c]; simp
        · have : decide ((n : Int) ≤ (i : Int)) = false := by simp; omega
          rw [this]; rfl
      simp only [go_sem, Nat.reduceEqDiff, Nat.reduceAdd, Nat.reduceSub, Nat.reduceMul, Nat.reduceLT, Nat.reduceLeDiff, Nat.reduceMod, Nat.reduceDiv, Int.reduceToNat, Int.reduceLT, Int.reduceLE, Bool.not_true, Bool.not_false, reduceIte, Int.reduceEq, Int.reduceBEq, Int.reduceBNe, Int.reduceGT, Int.reduceGE, Int.reduceNeg, Int.reduceAdd, Int.reduceSub, Nat.reduceBEq, decide_true, decide_false, undef, beq_self_eq_true, bne_self_eq_false, Bool.and_true, Bool.true_and, Bool.and_false, Bool.false_and, Bool.or_true, Bool.true_or, Bool.or_false, Bool.false_or, hc]
      exact finL_ret [] ⟨rfl, rfl, rfl, rfl, _, rfl, res_mk (by rw [hsp, hD]; rfl)⟩
  · have hjn : n + j = f.hs.length := by simp at g; omega
    have hD : downF f n = none := by
      unfold downF
      rw [List.find?_range_eq_none]
      intro i hi
      by_cases c : n ≤ i
      · rw [hall i (by omega) c]; simp
      · have : decide ((n : Int) ≤ (i : Int)) = false := by simp; omega
        rw [this]; rfl
    simp only [g, go_sem, Nat.reduceEqDiff, Nat.reduceAdd, Nat.reduceSub, Nat.reduceMul, Nat.reduceLT, Nat.reduceLeDiff, Nat.reduceMod, Nat.reduceDiv, Int.reduceToNat, Int.reduceLT, Int.reduceLE, Bool.not_true, Bool.not_false, reduceIte, Int.reduceEq, Int.reduceBEq, Int.reduceBNe, Int.reduceGT, Int.reduceGE, Int.reduceNeg, Int.reduceAdd, Int.reduceSub, Nat.reduceBEq, decide_true, decide_false, undef, beq_self_eq_true, bne_self_eq_false, Bool.and_true, Bool.true_and, Bool.and_false, Bool.false_and, Bool.or_true, Bool.true_or, Bool.or_false, Bool.false_or]
    exact finL_ret [] ⟨rfl, rfl, rfl, rfl, _, rfl, res_mk (by rw [hsp, hD]; rfl)⟩
end Go.Proofs.YtkbjodmpmmnhgaaDoor

/- The document's Ask, Wrong. -/
namespace Go.Proofs.YtkbjodmpmmnhgaaDoor
open Go Go.Ab

def mxK (f : Fl) (h : Nat) : Nat → Nat
  | 0 => 0
  | k + 1 => max (mxK f h k) (kindN f h k)
theorem mxK3 (f : Fl) (h : Nat) : mxK f h 3 = mostK f h := by simp only [mxK, mostK]; omega
theorem mxK_le (f : Fl) (h : Nat) : ∀ k, mxK f h k ≤ (truths f).length
  | 0 => by simp [mxK]
  | k + 1 => by
    have := mxK_le f h k
    have h2 : kindN f h k ≤ (truths f).length := List.countP_le_length
    simp only [mxK]; omega

set_option maxRecDepth 4000 in
theorem left_ok (f : Fl) (hf : f.OK) (h : Nat) (hh : h < f.hs.length) : ACall Tryd.prog 63 [.t (tKs (truths f)), .t (vi h)] [] (ret (vi (mostK f h))) := by
  refine ACall.walk k63 ?_
  unfold c63
  have hle := truths_le f hf
  simp only [go_sem, Nat.reduceEqDiff, Nat.reduceAdd, Nat.reduceSub, Nat.reduceMul, Nat.reduceLT, Nat.reduceLeDiff, Nat.reduceMod, Nat.reduceDiv, Int.reduceToNat, Int.reduceLT, Int.reduceLE, Bool.not_true, Bool.not_false, reduceIte, Int.reduceEq, Int.reduceBEq, Int.reduceBNe, Int.reduceGT, Int.reduceGE, Int.reduceNeg, Int.reduceAdd, Int.reduceSub, Nat.reduceBEq, decide_true, decide_false, undef, beq_self_eq_true, bne_self_eq_false, Bool.and_true, Bool.true_and, Bool.and_false, Bool.false_and, Bool.or_true, Bool.true_or, Bool.or_false, Bool.false_or]
  refine awpL_loopK 3 (fun k s => s = { env := [(6, .t (vi k)), (5, .t (vi (mxK f h k))), (0, .t (tKs (truths f))), (1, .t (vi h))], σ := [] }) ⟨_, Sub.gc [] [6, 5, 0, 1] rfl rfl, rfl⟩ ?_
  rintro k s hk rfl
  simp only [go_sem, Nat.reduceEqDiff, Nat.reduceAdd, Nat.reduceSub, Nat.reduceMul, Nat.reduceLT, Nat.reduceLeDiff, Nat.reduceMod, Nat.reduceDiv, Int.reduceToNat, Int.reduceLT, Int.reduceLE, Bool.not_true, Bool.not_false, reduceIte, Int.reduceEq, Int.reduceBEq, Int.reduceBNe, Int.reduceGT, Int.reduceGE, Int.reduceNeg, Int.reduceAdd, Int.reduceSub, Nat.reduceBEq, decide_true, decide_false, undef, beq_self_eq_true, bne_self_eq_false, Bool.and_true, Bool.true_and, Bool.and_false, Bool.false_and, Bool.or_true, Bool.true_or, Bool.or_false, Bool.false_or]
  refine BrL.mk (fun g => ?_) (fun g => ?_)
  · have hk' : k < 3 := by simp at g; omega
    have hwk : IntKind.i64.wrap ((k : Int) + 1) = ((k + 1 : Nat) : Int) := by rw [wrap_id (by omega) (by omega)]; omega
    have hmk : mxK f h (k + 1) = max (mxK f h k) (kindN f h k) := rfl
    have hN : kindN f h k = ((truths f).take (truths f).length).countP fun ks => ks[h]? == some k := by rw [List.take_length]; rfl
    rw [hN] at hmk
    generalize mxK f h k = m at *
    generalize mxK f h (k + 1) = m' at *
    simp only [g, go_sem, Nat.reduceEqDiff, Nat.reduceAdd, Nat.reduceSub, Nat.reduceMul, Nat.reduceLT, Nat.reduceLeDiff, Nat.reduceMod, Nat.reduceDiv, Int.reduceToNat, Int.reduceLT, Int.reduceLE, Bool.not_true, Bool.not_false, reduceIte, Int.reduceEq, Int.reduceBEq, Int.reduceBNe, Int.reduceGT, Int.reduceGE, Int.reduceNeg, Int.reduceAdd, Int.reduceSub, Nat.reduceBEq, decide_true, decide_false, undef, beq_self_eq_true, bne_self_eq_false, Bool.and_true, Bool.true_and, Bool.and_false, Bool.false_and, Bool.or_true, Bool.true_or, Bool.or_false, Bool.false_or]
    refine awpL_loopK (truths f).length (fun j s => s = { env := [(8, .t (vi j)), (7, .t (vi (((truths f).take j).countP (fun ks => ks[h]? == some k) : Nat))), (6, .t (vi k)), (5, .t (vi m)), (0, .t (tKs (truths f))), (1, .t (vi h))], σ := [] }) ⟨_, Sub.gc [] [8, 7, 6, 5, 0, 1] rfl rfl, rfl⟩ ?_
    rintro j s hj rfl
    simp only [go_sem, Nat.reduceEqDiff, Nat.reduceAdd, Nat.reduceSub, Nat.reduceMul, Nat.reduceLT, Nat.reduceLeDiff, Nat.reduceMod, Nat.reduceDiv, Int.reduceToNat, Int.reduceLT, Int.reduceLE, Bool.not_true, Bool.not_false, reduceIte, Int.reduceEq, Int.reduceBEq, Int.reduceBNe, Int.reduceGT, Int.reduceGE, Int.reduceNeg, Int.reduceAdd, Int.reduceSub, Nat.reduceBEq, decide_true, decide_false, undef, beq_self_eq_true, bne_self_eq_false, Bool.and_true, Bool.true_and, Bool.and_false, Bool.false_and, Bool.or_true, Bool.true_or, Bool.or_false, Bool.false_or, List.length_map]
    refine BrL.mk (fun g => ?_) (fun g => ?_)
    · have hj' : j < (truths f).length := by simp at g; omega
      have hg : (truths f)[j]? = some (truths f)[j] := List.getElem?_eq_getElem hj'
      have hw : IntKind.i64.wrap ((j : Int) + 1) = ((j + 1 : Nat) : Int) := by rw [wrap_id (by omega) (by omega)]; omega
      have hcp := countP_take (fun ks => ks[h]? == some k) (truths f) j _ hg
      have hcl : ((truths f).take j).countP (fun ks => ks[h]? == some k) ≤ j := Nat.le_trans List.countP_le_length (by rw [List.length_take]; omega)
      have hkl := truths_len (List.getElem_mem hj')
      generalize (truths f)[j] = ks at *
      generalize ((truths f).take j).countP (fun ks => ks[h]? == some k) = c at *
      have hu : ks[h]? = some ks[h] := List.getElem?_eq_getElem (by omega)
      have hwc : IntKind.i64.wrap ((c : Int) + 1) = ((c + 1 : Nat) : Int) := by rw [wrap_id (by omega) (by omega)]; omega
      rw [hu] at hcp
      generalize ks[h] = x at *
      have hb0 : (some x == some k) = decide ((x : Int) = (k : Int)) := by
        by_cases e : x = k
        · subst e; simp
        · have : ¬ (x : Int) = k := by omega
          simp [e, this]
      rw [hb0] at hcp
      simp only [g, go_sem, Nat.reduceEqDiff, Nat.reduceAdd, Nat.reduceSub, Nat.reduceMul, Nat.reduceLT, Nat.reduceLeDiff, Nat.reduceMod, Nat.reduceDiv, Int.reduceToNat, Int.reduceLT, Int.reduceLE, Bool.not_true, Bool.not_false, reduceIte, Int.reduceEq, Int.reduceBEq, Int.reduceBNe, Int.reduceGT, Int.reduceGE, Int.reduceNeg, Int.reduceAdd, Int.reduceSub, Nat.reduceBEq, decide_true, decide_false, undef, beq_self_eq_true, bne_self_eq_false, Bool.and_true, Bool.true_and, Bool.and_false, Bool.false_and, Bool.or_true, Bool.true_or, Bool.or_false, Bool.false_or, List.length_map, List.getElem?_map, hg, tK, hu]
      refine BrL.mk (fun g2 => ?_) (fun g2 => ?_)
      · have g2' : x = k := by simp at g2; omega
        rw [if_pos (by simp [g2'])] at hcp
        simp only [g2, go_sem, Nat.reduceEqDiff, Nat.reduceAdd, Nat.reduceSub, Nat.reduceMul, Nat.reduceLT, Nat.reduceLeDiff, Nat.reduceMod, Nat.reduceDiv, Int.reduceToNat, Int.reduceLT, Int.reduceLE, Bool.not_true, Bool.not_false, reduceIte, Int.reduceEq, Int.reduceBEq, Int.reduceBNe, Int.reduceGT, Int.reduceGE, Int.reduceNeg, Int.reduceAdd, Int.reduceSub, Nat.reduceBEq, decide_true, decide_false, undef, beq_self_eq_true, bne_self_eq_false, Bool.and_true, Bool.true_and, Bool.and_false, Bool.false_and, Bool.or_true, Bool.true_or, Bool.or_false, Bool.false_or, List.length_map, List.getElem?_map, hg, tK, hw, hwc]
        refine ⟨hj', _, Sub.gc [] [8, 7, 6, 5, 0, 1] rfl rfl, ?_⟩
        rw [hcp]
        rfl
      · have g2' : ¬ x = k := by simp at g2; omega
        rw [if_neg (by simp; omega)] at hcp
        simp only [g2, go_sem, Nat.reduceEqDiff, Nat.reduceAdd, Nat.reduceSub, Nat.reduceMul, Nat.reduceLT, Nat.reduceLeDiff, Nat.reduceMod, Nat.reduceDiv, Int.reduceToNat, Int.reduceLT, Int.reduceLE, Bool.not_true, Bool.not_false, reduceIte, Int.reduceEq, Int.reduceBEq, Int.reduceBNe, Int.reduceGT, Int.reduceGE, Int.reduceNeg, Int.reduceAdd, Int.reduceSub, Nat.reduceBEq, decide_true, decide_false, undef, beq_self_eq_true, bne_self_eq_false, Bool.and_true, Bool.true_and, Bool.and_false, Bool.false_and, Bool.or_true, Bool.true_or, Bool.or_false, Bool.false_or, List.length_map, List.getElem?_map, hg, tK, hw, hwc]
        refine ⟨hj', _, Sub.gc [] [8, 7, 6, 5, 0, 1] rfl rfl, ?_⟩
        rw [hcp]
        rfl
    · have hjn : j = (truths f).length := by simp at g; omega
      subst hjn
      generalize ((truths f).take (truths f).length).countP (fun ks => ks[h]? == some k) = c at *
      have hmx : max (m : Int) (c : Int) = (m' : Int) := by omega
      simp only [g, go_sem, Nat.reduceEqDiff, Nat.reduceAdd, Nat.reduceSub, Nat.reduceMul, Nat.reduceLT, Nat.reduceLeDiff, Nat.reduceMod, Nat.reduceDiv, Int.reduceToNat, Int.reduceLT, Int.reduceLE, Bool.not_true, Bool.not_false, reduceIte, Int.reduceEq, Int.reduceBEq, Int.reduceBNe, Int.reduceGT, Int.reduceGE, Int.reduceNeg, Int.reduceAdd, Int.reduceSub, Nat.reduceBEq, decide_true, decide_false, undef, beq_self_eq_true, bne_self_eq_false, Bool.and_true, Bool.true_and, Bool.and_false, Bool.false_and, Bool.or_true, Bool.true_or, Bool.or_false, Bool.false_or, hwk, hmx]
      refine ⟨hk', _, Sub.gc [] [6, 5, 0, 1] rfl rfl, rfl⟩
  · have hk' : k = 3 := by simp at g; omega
    subst hk'
    simp only [g, go_sem, Nat.reduceEqDiff, Nat.reduceAdd, Nat.reduceSub, Nat.reduceMul, Nat.reduceLT, Nat.reduceLeDiff, Nat.reduceMod, Nat.reduceDiv, Int.reduceToNat, Int.reduceLT, Int.reduceLE, Bool.not_true, Bool.not_false, reduceIte, Int.reduceEq, Int.reduceBEq, Int.reduceBNe, Int.reduceGT, Int.reduceGE, Int.reduceNeg, Int.reduceAdd, Int.reduceSub, Nat.reduceBEq, decide_true, decide_false, undef, beq_self_eq_true, bne_self_eq_false, Bool.and_true, Bool.true_and, Bool.and_false, Bool.false_and, Bool.or_true, Bool.true_or, Bool.or_false, Bool.false_or]
    exact finL_ret [] ⟨rfl, rfl, rfl, rfl, _, rfl, res_mk (by rw [mxK3]; rfl)⟩

/-! ### Ask -/
/-- The best hour among the first ones, of the document. -/
def bestA (f : Fl) : Nat → Nat
  | 0 => 0
  | k + 1 => if mostK f k < mostK f (bestA f k) then k else bestA f k
theorem bestA_le (f : Fl) : ∀ k, bestA f k ≤ k - 1
  | 0 => Nat.le_refl _
  | k + 1 => by
    have := bestA_le f k
    simp only [bestA]; split <;> omega
theorem mostK_le (f : Fl) (h : Nat) : mostK f h ≤ (truths f).length := by rw [← mxK3]; exact mxK_le f h 3
theorem bestA_askF (f : Fl) : ∀ k, 0 < k → askF f k = (bestA f k, mostK f (bestA f k))
  | 1, _ => by
    have := mostK_le f 0
    have h0 : mostK f 0 < (askF f 0).2 := by simp only [askF]; omega
    have hb : bestA f 1 = 0 := by simp [bestA]
    rw [hb, askF, if_pos h0]
  | k + 2, _ => by
    have := bestA_askF f (k + 1) (by omega)
    rw [askF, bestA, this]
    split <;> rfl

set_option maxRecDepth 4000 in
theorem rAsk_ok (f : Fl) (hl : f.hs.length < 9223372036854775808 ∧ f.ss.length < 9223372036854775808) : ACall Tryd.prog 28 [.t (.agg (fl5 f))] [] (res (twoE (specAsk f).1 (specAsk f).2.1 (specAsk f).2.2)) := by
  refine ACall.walk k28 ?_
  have h53 := rtold_ok f true hl
  unfold c28 fl5
  simp only [fl5] at h53
  simp only [go_sem, Nat.reduceEqDiff, Nat.reduceAdd, Nat.reduceSub, Nat.reduceMul, Nat.reduceLT, Nat.reduceLeDiff, Nat.reduceMod, Nat.reduceDiv, Int.reduceToNat, Int.reduceLT, Int.reduceLE, Bool.not_true, Bool.not_false, reduceIte, Int.reduceEq, Int.reduceBEq, Int.reduceBNe, Int.reduceGT, Int.reduceGE, Int.reduceNeg, Int.reduceAdd, Int.reduceSub, Nat.reduceBEq, decide_true, decide_false, undef, beq_self_eq_true, bne_self_eq_false, Bool.and_true, Bool.true_and, Bool.and_false, Bool.false_and, Bool.or_true, Bool.true_or, Bool.or_false, Bool.false_or]
  refine ACallL.fresh1 h53 rfl ?_
  cases hok : f.ok
  · simp only [toldO, hok, go_sem, Nat.reduceEqDiff, Nat.reduceAdd, Nat.reduceSub, Nat.reduceMul, Nat.reduceLT, Nat.reduceLeDiff, Nat.reduceMod, Nat.reduceDiv, Int.reduceToNat, Int.reduceLT, Int.reduceLE, Bool.not_true, Bool.not_false, reduceIte, Int.reduceEq, Int.reduceBEq, Int.reduceBNe, Int.reduceGT, Int.reduceGE, Int.reduceNeg, Int.reduceAdd, Int.reduceSub, Nat.reduceBEq, decide_true, decide_false, undef, beq_self_eq_true, bne_self_eq_false, Bool.and_true, Bool.true_and, Bool.and_false, Bool.false_and, Bool.or_true, Bool.true_or, Bool.or_false, Bool.false_or]
    exact finL_ret [] ⟨rfl, rfl, rfl, rfl, _, rfl, res_mk (by simp only [specAsk, hok]; rfl)⟩
  have hf := (Fl.ok_iff f).1 hok
  have hn := hf.nh
  have hle := truths_le f hf
  cases hT : noT f
  rotate_left
  · simp only [toldO, hok, hT, go_sem, Nat.reduceEqDiff, Nat.reduceAdd, Nat.reduceSub, Nat.reduceMul, Nat.reduceLT, Nat.reduceLeDiff, Nat.reduceMod, Nat.reduceDiv, Int.reduceToNat, Int.reduceLT, Int.reduceLE, Bool.not_true, Bool.not_false, reduceIte, Int.reduceEq, Int.reduceBEq, Int.reduceBNe, Int.reduceGT, Int.reduceGE, Int.reduceNeg, Int.reduceAdd, Int.reduceSub, Nat.reduceBEq, decide_true, decide_false, undef, beq_self_eq_true, bne_self_eq_false, Bool.and_true, Bool.true_and, Bool.and_false, Bool.false_and, Bool.or_true, Bool.true_or, Bool.or_false, Bool.false_or]
    exact finL_ret [] ⟨rfl, rfl, rfl, rfl, _, rfl, res_mk (by simp only [specAsk, hok, hT]; rfl)⟩
  have hT' : 0 < (truths f).length := by
    unfold noT at hT
    cases ht : truths f with
    | nil => rw [ht] at hT; simp at hT
    | cons x r => simp
  simp only [toldO, hok, hT, go_sem, Nat.reduceEqDiff, Nat.reduceAdd, Nat.reduceSub, Nat.reduceMul, Nat.reduceLT, Nat.reduceLeDiff, Nat.reduceMod, Nat.reduceDiv, Int.reduceToNat, Int.reduceLT, Int.reduceLE, Bool.not_true, Bool.not_false, reduceIte, Int.reduceEq, Int.reduceBEq, Int.reduceBNe, Int.reduceGT, Int.reduceGE, Int.reduceNeg, Int.reduceAdd, Int.reduceSub, Nat.reduceBEq, decide_true, decide_false, undef, beq_self_eq_true, bne_self_eq_false, Bool.and_true, Bool.true_and, Bool.and_false, Bool.false_and, Bool.or_true, Bool.true_or, Bool.or_false, Bool.false_or, List.length_map]
  cases h1 : (((truths f).length : Int) == 1)
  rotate_left
  · have h1' : ¬ 1 < (truths f).length := by simp at h1; omega
    simp only [go_sem, Nat.reduceEqDiff, Nat.reduceAdd, Nat.reduceSub, Nat.reduceMul, Nat.reduceLT, Nat.reduceLeDiff, Nat.reduceMod, Nat.reduceDiv, Int.reduceToNat, Int.reduceLT, Int.reduceLE, Bool.not_true, Bool.not_false, reduceIte, Int.reduceEq, Int.reduceBEq, Int.reduceBNe, Int.reduceGT, Int.reduceGE, Int.reduceNeg, Int.reduceAdd, Int.reduceSub, Nat.reduceBEq, decide_true, decide_false, undef, beq_self_eq_true, bne_self_eq_false, Bool.and_true, Bool.true_and, Bool.and_false, Bool.false_and, Bool.or_true, Bool.true_or, Bool.or_false, Bool.false_or, h1]
    exact finL_ret [] ⟨rfl, rfl, rfl, rfl, _, rfl, res_mk (by simp only [specAsk, hok, hT, if_neg h1']; rfl)⟩
  have h1' : 1 < (truths f).length := by simp at h1; omega
  have hpos : 0 < f.hs.length := by
    rcases Nat.eq_zero_or_pos f.hs.length with e | e
    · have h2 := rows_many f 0 0
      have h3 : (truths f).length ≤ (rows f).length := List.length_filter_le _ _
      unfold rows at h3
      rw [e] at h3
      simp only [Nat.pow_zero] at h2
      omega
    · exact e
  have hsp : specAsk f = (((bestA f f.hs.length : Nat) : Int), ((mostK f (bestA f f.hs.length) : Nat) : Int), 0) := by
    simp only [specAsk, hok, hT, if_pos h1', bestA_askF f _ hpos]; rfl
  simp only [go_sem, Nat.reduceEqDiff, Nat.reduceAdd, Nat.reduceSub, Nat.reduceMul, Nat.reduceLT, Nat.reduceLeDiff, Nat.reduceMod, Nat.reduceDiv, Int.reduceToNat, Int.reduceLT, Int.reduceLE, Bool.not_true, Bool.not_false, reduceIte, Int.reduceEq, Int.reduceBEq, Int.reduceBNe, Int.reduceGT, Int.reduceGE, Int.reduceNeg, Int.reduceAdd, Int.reduceSub, Nat.reduceBEq, decide_true, decide_false, undef, beq_self_eq_true, bne_self_eq_false, Bool.and_true, Bool.true_and, Bool.and_false, Bool.false_and, Bool.or_true, Bool.true_or, Bool.or_false, Bool.false_or, h1]
  refine awpL_loopK f.hs.length (fun j s => s = { env := [(8, .t (vi j)), (7, .t (vi (bestA f j))), (5, .t (tKs (truths f))), (1, .ptr 0 0)], σ := [.cells ((fl5 f).map .t)] }) ⟨_, Sub.gc [0] [8, 7, 5, 1] rfl rfl, rfl⟩ ?_
  rintro j s hj rfl
  simp only [fl5, go_sem, Nat.reduceEqDiff, Nat.reduceAdd, Nat.reduceSub, Nat.reduceMul, Nat.reduceLT, Nat.reduceLeDiff, Nat.reduceMod, Nat.reduceDiv, Int.reduceToNat, Int.reduceLT, Int.reduceLE, Bool.not_true, Bool.not_false, reduceIte, Int.reduceEq, Int.reduceBEq, Int.reduceBNe, Int.reduceGT, Int.reduceGE, Int.reduceNeg, Int.reduceAdd, Int.reduceSub, Nat.reduceBEq, decide_true, decide_false, undef, beq_self_eq_true, bne_self_eq_false, Bool.and_true, Bool.true_and, Bool.and_false, Bool.false_and, Bool.or_true, Bool.true_or, Bool.or_false, Bool.false_or, List.length_map]
  refine BrL.mk (fun g => ?_) (fun g => ?_)
  · have hj' : j < f.hs.length := by simp at g; omega
    have hw : IntKind.i64.wrap ((j : Int) + 1) = ((j + 1 : Nat) : Int) := by rw [wrap_id (by omega) (by omega)]; omega
    have hb := bestA_le f j
    have w1 := left_ok f hf j hj'
    have w2 := left_ok f hf (bestA f j) (by omega)
    have hs : bestA f (j + 1) = if mostK f j < mostK f (bestA f j) then j else bestA f j := rfl
    generalize mostK f (bestA f j) = m2 at *
    generalize mostK f j = m1 at *
    simp only [g, go_sem, Nat.reduceEqDiff, Nat.reduceAdd, Nat.reduceSub, Nat.reduceMul, Nat.reduceLT, Nat.reduceLeDiff, Nat.reduceMod, Nat.reduceDiv, Int.reduceToNat, Int.reduceLT, Int.reduceLE, Bool.not_true, Bool.not_false, reduceIte, Int.reduceEq, Int.reduceBEq, Int.reduceBNe, Int.reduceGT, Int.reduceGE, Int.reduceNeg, Int.reduceAdd, Int.reduceSub, Nat.reduceBEq, decide_true, decide_false, undef, beq_self_eq_true, bne_self_eq_false, Bool.and_true, Bool.true_and, Bool.and_false, Bool.false_and, Bool.or_true, Bool.true_or, Bool.or_false, Bool.false_or]
    refine ACallL.fresh1 w1 rfl ?_
    simp only [go_sem, Nat.reduceEqDiff, Nat.reduceAdd, Nat.reduceSub, Nat.reduceMul, Nat.reduceLT, Nat.reduceLeDiff, Nat.reduceMod, Nat.reduceDiv, Int.reduceToNat, Int.reduceLT, Int.reduceLE, Bool.not_true, Bool.not_false, reduceIte, Int.reduceEq, Int.reduceBEq, Int.reduceBNe, Int.reduceGT, Int.reduceGE, Int.reduceNeg, Int.reduceAdd, Int.reduceSub, Nat.reduceBEq, decide_true, decide_false, undef, beq_self_eq_true, bne_self_eq_false, Bool.and_true, Bool.true_and, Bool.and_false, Bool.false_and, Bool.or_true, Bool.true_or, Bool.or_false, Bool.false_or]
    refine ACallL.fresh1 w2 rfl ?_
    simp only [go_sem, Nat.reduceEqDiff, Nat.reduceAdd, Nat.reduceSub, Nat.reduceMul, Nat.reduceLT, Nat.reduceLeDiff, Nat.reduceMod, Nat.reduceDiv, Int.reduceToNat, Int.reduceLT, Int.reduceLE, Bool.not_true, Bool.not_false, reduceIte, Int.reduceEq, Int.reduceBEq, Int.reduceBNe, Int.reduceGT, Int.reduceGE, Int.reduceNeg, Int.reduceAdd, Int.reduceSub, Nat.reduceBEq, decide_true, decide_false, undef, beq_self_eq_true, bne_self_eq_false, Bool.and_true, Bool.true_and, Bool.and_false, Bool.false_and, Bool.or_true, Bool.true_or, Bool.or_false, Bool.false_or]
    refine BrL.mk (fun h2 => ?_) (fun h2 => ?_)
    · have h2' : m1 < m2 := by simp at h2; omega
      simp only [go_sem, Nat.reduceEqDiff, Nat.reduceAdd, Nat.reduceSub, Nat.reduceMul, Nat.reduceLT, Nat.reduceLeDiff, Nat.reduceMod, Nat.reduceDiv, Int.reduceToNat, Int.reduceLT, Int.reduceLE, Bool.not_true, Bool.not_false, reduceIte, Int.reduceEq, Int.reduceBEq, Int.reduceBNe, Int.reduceGT, Int.reduceGE, Int.reduceNeg, Int.reduceAdd, Int.reduceSub, Nat.reduceBEq, decide_true, decide_false, undef, beq_self_eq_true, bne_self_eq_false, Bool.and_true, Bool.true_and, Bool.and_false, Bool.false_and, Bool.or_true, Bool.true_or, Bool.or_false, Bool.false_or, h2, hw]
      refine ⟨hj', _, Sub.gc [0] [8, 7, 5, 1] rfl rfl, ?_⟩
      rw [hs, if_pos h2']
      rfl
    · have h2' : ¬ m1 < m2 := by simp at h2; omega
      simp only [go_sem, Nat.reduceEqDiff, Nat.reduceAdd, Nat.reduceSub, Nat.reduceMul, Nat.reduceLT, Nat.reduceLeDiff, Nat.reduceMod, Nat.reduceDiv, Int.reduceToNat, Int.reduceLT, Int.reduceLE, Bool.not_true, Bool.not_false, reduceIte, Int.reduceEq, Int.reduceBEq, Int.reduceBNe, Int.reduceGT, Int.reduceGE, Int.reduceNeg, Int.reduceAdd, Int.reduceSub, Nat.reduceBEq, decide_true, decide_false, undef, beq_self_eq_true, bne_self_eq_false, Bool.and_true, Bool.true_and, Bool.and_false, Bool.false_and, Bool.or_true, Bool.true_or, Bool.or_false, Bool.false_or, h2, hw]
      refine ⟨hj', _, Sub.gc [0] [8, 7, 5, 1] rfl rfl, ?_⟩
      rw [hs, if_neg h2']
      rfl
  · have hjn : j = f.hs.length := by simp at g; omega
    subst hjn
    have hb := bestA_le f f.hs.length
    have w2 := left_ok f hf (bestA f f.hs.length) (by omega)
    simp only [g, go_sem, Nat.reduceEqDiff, Nat.reduceAdd, Nat.reduceSub, Nat.reduceMul, Nat.reduceLT, Nat.reduceLeDiff, Nat.reduceMod, Nat.reduceDiv, Int.reduceToNat, Int.reduceLT, Int.reduceLE, Bool.not_true, Bool.not_false, reduceIte, Int.reduceEq, Int.reduceBEq, Int.reduceBNe, Int.reduceGT, Int.reduceGE, Int.reduceNeg, Int.reduceAdd, Int.reduceSub, Nat.reduceBEq, decide_true, decide_false, undef, beq_self_eq_true, bne_self_eq_false, Bool.and_true, Bool.true_and, Bool.and_false, Bool.false_and, Bool.or_true, Bool.true_or, Bool.or_false, Bool.false_or]
    refine ACallL.fresh1 w2 rfl ?_
    simp only [go_sem, Nat.reduceEqDiff, Nat.reduceAdd, Nat.reduceSub, Nat.reduceMul, Nat.reduceLT, Nat.reduceLeDiff, Nat.reduceMod, Nat.reduceDiv, Int.reduceToNat, Int.reduceLT, Int.reduceLE, Bool.not_true, Bool.not_false, reduceIte, Int.reduceEq, Int.reduceBEq, Int.reduceBNe, Int.reduceGT, Int.reduceGE, Int.reduceNeg, Int.reduceAdd, Int.reduceSub, Nat.reduceBEq, decide_true, decide_false, undef, beq_self_eq_true, bne_self_eq_false, Bool.and_true, Bool.true_and, Bool.and_false, Bool.false_and, Bool.or_true, Bool.true_or, Bool.or_false, Bool.false_or]
    exact finL_ret [] ⟨rfl, rfl, rfl, rfl, _, rfl, res_mk (by rw [hsp]; rfl)⟩

/-! ### Wrong -/
theorem kindsN_some (f : Fl) (h : Hr) (hh : h.lo ≤ h.hi) : ∃ k < 3, (kindsN f h).testBit k = true := by
  by_cases e : h.th = 0
  · have hz : 0 ≤ kindZ f (h.lo + ((0 : Nat) : Int)) false ∧ kindZ f (h.lo + ((0 : Nat) : Int)) false < 3 := by
      unfold kindZ; split <;> try split
      all_goals omega
    refine ⟨(kindZ f (h.lo + ((0 : Nat) : Int)) false).toNat, by omega, ?_⟩
    rw [kindsN_bit f h hh _ (by omega)]
    refine ⟨0, by omega, .inr ⟨by omega, by omega⟩⟩
  · refine ⟨2, by omega, ?_⟩
    rw [kindsN_bit f h hh _ (by omega)]
    exact ⟨0, by omega, .inl ⟨e, rfl⟩⟩
theorem kls_some (f : Fl) (hf : f.OK) : ∀ (l h : Nat), h + l ≤ f.hs.length → kls f l h ≠ []
  | 0, _, _ => by simp [kls]
  | l + 1, h, hl => by
    have hg : f.hs[h]? = some f.hs[h] := List.getElem?_eq_getElem (by omega)
    have hmem := hf.hs _ (List.getElem_mem (show h < f.hs.length by omega))
    obtain ⟨k, hk, hb⟩ := kindsN_some f f.hs[h] (by omega)
    have hK : Kf f h = kindsN f f.hs[h] := by unfold Kf; rw [hg]
    obtain ⟨ks, hks⟩ := List.exists_mem_of_ne_nil _ (kls_some f hf l (h + 1) (by omega))
    intro e
    have : (k :: ks) ∈ kls f (l + 1) h := by
      simp only [kls]
      exact List.mem_flatMap.2 ⟨k, (kset_mem _ _).2 ⟨hk, by rw [hK]; exact hb⟩, List.mem_map.2 ⟨ks, hks, rfl⟩⟩
    rw [e] at this
    cases this
theorem rows_some (f : Fl) (hf : f.OK) : rows f ≠ [] := kls_some f hf _ 0 (by omega)

theorem inS_outS (set N : Nat) : ∀ (l : List Sn) (i : Nat), i + l.length ≤ N → set < 2 ^ N → inS (2 ^ N - (set + 1)) i l = outS set i l
  | [], _, _, _ => rfl
  | s :: l, i, h, hs => by
    simp only [List.length_cons] at h
    simp only [inS, outS, inS_outS set N l (i + 1) (by omega) hs, Nat.testBit_two_pow_sub_succ hs]
    have : decide (i < N) = true := by simp; omega
    rw [this, Bool.true_and]
    cases set.testBit i <;> rfl
theorem kAcc_leave (f : Fl) (set : Nat) (lo : Int) : ∀ j, kAcc (leave f set) lo j = kAcc f lo j
  | 0 => rfl
  | j + 1 => by simp only [kAcc, kAcc_leave f set lo j]; rfl
theorem Kf_leave (f : Fl) (set : Nat) : Kf (leave f set) = Kf f := by
  funext i
  unfold Kf kindsN
  simp only [kAcc_leave]
  rfl
theorem kls_leave (f : Fl) (set : Nat) : ∀ l h, kls (leave f set) l h = kls f l h
  | 0, _ => rfl
  | l + 1, h => by simp only [kls, Kf_leave, kls_leave f set l]
/-- Without a set of what was seen, are there truths? -/
def good (f : Fl) (set : Nat) : Bool := !(truthsW f (2 ^ f.ss.length - 1 - set)).isEmpty
theorem good_leave (f : Fl) (set : Nat) (h : set < 2 ^ f.ss.length) : noT (leave f set) = !good f set := by
  unfold good
  rw [Bool.not_not]
  have : truths (leave f set) = truthsW f (2 ^ f.ss.length - 1 - set) := by
    unfold truthsW
    rw [show 2 ^ f.ss.length - 1 - set = 2 ^ f.ss.length - (set + 1) by omega, inS_outS set f.ss.length f.ss 0 (by omega) h]
    unfold truths rows
    rw [kls_leave]
    rfl
  unfold noT
  rw [this]
theorem good_all (f : Fl) (hf : f.OK) : good f (2 ^ f.ss.length - 1) = true := by
  unfold good truthsW
  rw [Nat.sub_self]
  have h0 : ∀ (l : List Sn) (i : Nat), inS 0 i l = [] := by
    intro l
    induction l with
    | nil => intro i; rfl
    | cons s l ih => intro i; simp only [inS, Nat.zero_testBit, ih]; rfl
  rw [h0]
  have hr := rows_some f hf
  have : (rows f).filter (right f []) = rows f := by
    rw [List.filter_eq_self]; intro a _; simp [right]
  rw [this]
  cases h : rows f with
  | nil => exact absurd h hr
  | cons x r => rfl
theorem size_most : ∀ n : Nat, n < 9 → size (2 ^ n - 1) = n ∧ ∀ m < 2 ^ n, m ≠ 2 ^ n - 1 → size m < n := by
  intro n hn
  have h : ((List.range 9).all fun n => decide (size (2 ^ n - 1) = n) && (List.range (2 ^ n)).all fun m => decide (m ≠ 2 ^ n - 1 → size m < n)) = true := by decide +kernel
  rw [List.all_eq_true] at h
  have := h n (List.mem_range.2 hn)
  rw [Bool.and_eq_true, decide_eq_true_eq, List.all_eq_true] at this
  exact ⟨this.1, fun m hm => by have := of_decide_eq_true (this.2 m (List.mem_range.2 hm)); exact this⟩
/-- The best set among the first ones, of the document. -/
def bestW (f : Fl) : Nat → Nat
  | 0 => 2 ^ f.ss.length - 1
  | x + 1 => if size x < size (bestW f x) ∧ good f x = true then x else bestW f x
theorem bestW_lt (f : Fl) : ∀ x, x ≤ 2 ^ f.ss.length → bestW f x < 2 ^ f.ss.length
  | 0, _ => by have := Nat.two_pow_pos f.ss.length; simp only [bestW]; omega
  | x + 1, h => by
    have := bestW_lt f x (by omega)
    simp only [bestW]; split <;> omega
theorem bestW_good (f : Fl) (hf : f.OK) : ∀ x, good f (bestW f x) = true
  | 0 => good_all f hf
  | x + 1 => by
    simp only [bestW]; split
    · rename_i h; exact h.2
    · exact bestW_good f hf x
theorem bestW_least (f : Fl) (hf : f.OK) : ∀ x, x ≤ 2 ^ f.ss.length → (bestW f x < x ∨ bestW f x = 2 ^ f.ss.length - 1) ∧ ∀ y < x, good f y = true → size (bestW f x) < size y ∨ (size (bestW f x) = size y ∧ bestW f x ≤ y)
  | 0, _ => ⟨.inr rfl, fun y hy => by omega⟩
  | x + 1, h => by
    obtain ⟨h1, h2⟩ := bestW_least f hf x (by omega)
    have hm := size_most f.ss.length (by have := hf.ns; omega)
    simp only [bestW]
    split
    · rename_i c
      refine ⟨.inl (by omega), fun y hy hg => ?_⟩
      by_cases e : y = x
      · subst e; exact .inr ⟨rfl, Nat.le_refl _⟩
      · have := h2 y (by omega) hg
        left; omega
    · rename_i c
      refine ⟨h1.imp (by omega) id, fun y hy hg => ?_⟩
      by_cases e : y = x
      · subst e
        have hc : ¬ size y < size (bestW f y) := fun h => c ⟨h, hg⟩
        rcases h1 with h1 | h1
        · omega
        · rw [h1, hm.1] at hc ⊢
          by_cases e2 : y = 2 ^ f.ss.length - 1
          · right; rw [e2, hm.1]; omega
          · have := hm.2 y (by omega) e2
            omega
      · exact h2 y (by omega) hg
theorem bestW_wrong (f : Fl) (hf : f.OK) : wrongF f = some (bestW f (2 ^ f.ss.length)) := by
  have h1 := bestW_lt f _ (Nat.le_refl _)
  have h2 := bestW_good f hf (2 ^ f.ss.length)
  obtain ⟨-, h3⟩ := bestW_least f hf _ (Nat.le_refl _)
  have hm := size_most f.ss.length (by have := hf.ns; omega)
  generalize bestW f (2 ^ f.ss.length) = b at *
  have ht : ∀ many set, set < 2 ^ f.ss.length → tryW f many set = if size set = many ∧ good f set = true then some set else none := by
    intro many set hs
    unfold tryW
    rw [good_leave f set hs]
    cases good f set <;> simp
  have hsz : size b ≤ f.ss.length := by
    by_cases e : b = 2 ^ f.ss.length - 1
    · rw [e, hm.1]; omega
    · have := hm.2 b h1 e; omega
  unfold wrongF
  rw [ff_some]
  refine ⟨size b, by omega, ?_, fun j hj => ?_⟩
  · rw [ff_some]
    refine ⟨b, h1, by rw [ht _ _ h1, if_pos ⟨rfl, h2⟩], fun i hi => ?_⟩
    rw [ht _ _ (by omega), if_neg]
    rintro ⟨e1, e2⟩
    have := h3 i (by omega) e2
    omega
  · rw [ff_none]
    intro i hi
    rw [ht _ _ hi, if_neg]
    rintro ⟨e1, e2⟩
    have := h3 i hi e2
    omega

set_option maxRecDepth 4000 in
theorem rWrong_ok (f : Fl) (hl : f.hs.length < 9223372036854775808 ∧ f.ss.length < 9223372036854775808) : ACall Tryd.prog 30 [.t (.agg (fl5 f))] [] (res (oneE (specWrong f).1 (specWrong f).2)) := by
  refine ACall.walk k30 ?_
  have h36 := rflag_ok f hl
  unfold c30 fl5
  simp only [fl5] at h36
  simp only [go_sem, Nat.reduceEqDiff, Nat.reduceAdd, Nat.reduceSub, Nat.reduceMul, Nat.reduceLT, Nat.reduceLeDiff, Nat.reduceMod, Nat.reduceDiv, Int.reduceToNat, Int.reduceLT, Int.reduceLE, Bool.not_true, Bool.not_false, reduceIte, Int.reduceEq, Int.reduceBEq, Int.reduceBNe, Int.reduceGT, Int.reduceGE, Int.reduceNeg, Int.reduceAdd, Int.reduceSub, Nat.reduceBEq, decide_true, decide_false, undef, beq_self_eq_true, bne_self_eq_false, Bool.and_true, Bool.true_and, Bool.and_false, Bool.false_and, Bool.or_true, Bool.true_or, Bool.or_false, Bool.false_or]
  refine ACallL.quiet1 h36 rfl rfl rfl ?_
  cases hok : f.ok
  · simp only [go_sem, Nat.reduceEqDiff, Nat.reduceAdd, Nat.reduceSub, Nat.reduceMul, Nat.reduceLT, Nat.reduceLeDiff, Nat.reduceMod, Nat.reduceDiv, Int.reduceToNat, Int.reduceLT, Int.reduceLE, Bool.not_true, Bool.not_false, reduceIte, Int.reduceEq, Int.reduceBEq, Int.reduceBNe, Int.reduceGT, Int.reduceGE, Int.reduceNeg, Int.reduceAdd, Int.reduceSub, Nat.reduceBEq, decide_true, decide_false, undef, beq_self_eq_true, bne_self_eq_false, Bool.and_true, Bool.true_and, Bool.and_false, Bool.false_and, Bool.or_true, Bool.true_or, Bool.or_false, Bool.false_or, hok]
    exact finL_ret [] ⟨rfl, rfl, rfl, rfl, _, rfl, res_mk (by simp only [specWrong, hok]; rfl)⟩
  have hf := (Fl.ok_iff f).1 hok
  have hns := hf.ns
  have hle := truths_le f hf
  have h55 := rTruths_ok f hf
  have h65 := revery_ok f hf
  have hp2 : 2 ^ f.ss.length ≤ 256 := Nat.pow_le_pow_right (n := 2) (by decide) hns
  have hp1 := Nat.two_pow_pos f.ss.length
  simp only [fl5] at h55 h65
  simp only [go_sem, Nat.reduceEqDiff, Nat.reduceAdd, Nat.reduceSub, Nat.reduceMul, Nat.reduceLT, Nat.reduceLeDiff, Nat.reduceMod, Nat.reduceDiv, Int.reduceToNat, Int.reduceLT, Int.reduceLE, Bool.not_true, Bool.not_false, reduceIte, Int.reduceEq, Int.reduceBEq, Int.reduceBNe, Int.reduceGT, Int.reduceGE, Int.reduceNeg, Int.reduceAdd, Int.reduceSub, Nat.reduceBEq, decide_true, decide_false, undef, beq_self_eq_true, bne_self_eq_false, Bool.and_true, Bool.true_and, Bool.and_false, Bool.false_and, Bool.or_true, Bool.true_or, Bool.or_false, Bool.false_or, hok]
  refine ACallL.fresh1 h55 rfl ?_
  simp only [go_sem, Nat.reduceEqDiff, Nat.reduceAdd, Nat.reduceSub, Nat.reduceMul, Nat.reduceLT, Nat.reduceLeDiff, Nat.reduceMod, Nat.reduceDiv, Int.reduceToNat, Int.reduceLT, Int.reduceLE, Bool.not_true, Bool.not_false, reduceIte, Int.reduceEq, Int.reduceBEq, Int.reduceBNe, Int.reduceGT, Int.reduceGE, Int.reduceNeg, Int.reduceAdd, Int.reduceSub, Nat.reduceBEq, decide_true, decide_false, undef, beq_self_eq_true, bne_self_eq_false, Bool.and_true, Bool.true_and, Bool.and_false, Bool.false_and, Bool.or_true, Bool.true_or, Bool.or_false, Bool.false_or, List.length_map]
  cases h1 : decide (((truths f).length : Int) > 0)
  rotate_left
  · have hT : noT f = false := by
      unfold noT
      cases ht : truths f with
      | nil => rw [ht] at h1; simp at h1
      | cons x r => rfl
    simp only [go_sem, Nat.reduceEqDiff, Nat.reduceAdd, Nat.reduceSub, Nat.reduceMul, Nat.reduceLT, Nat.reduceLeDiff, Nat.reduceMod, Nat.reduceDiv, Int.reduceToNat, Int.reduceLT, Int.reduceLE, Bool.not_true, Bool.not_false, reduceIte, Int.reduceEq, Int.reduceBEq, Int.reduceBNe, Int.reduceGT, Int.reduceGE, Int.reduceNeg, Int.reduceAdd, Int.reduceSub, Nat.reduceBEq, decide_true, decide_false, undef, beq_self_eq_true, bne_self_eq_false, Bool.and_true, Bool.true_and, Bool.and_false, Bool.false_and, Bool.or_true, Bool.true_or, Bool.or_false, Bool.false_or, h1]
    exact finL_ret [] ⟨rfl, rfl, rfl, rfl, _, rfl, res_mk (by simp only [specWrong, hok, hT]; rfl)⟩
  have hT : noT f = true := by
    unfold noT
    cases ht : truths f with
    | nil => rfl
    | cons x r => rw [ht] at h1; simp at h1
  have hsp : specWrong f = (((bestW f (2 ^ f.ss.length) : Nat) : Int), 0) := by simp only [specWrong, hok, hT, bestW_wrong f hf]; rfl
  simp only [go_sem, Nat.reduceEqDiff, Nat.reduceAdd, Nat.reduceSub, Nat.reduceMul, Nat.reduceLT, Nat.reduceLeDiff, Nat.reduceMod, Nat.reduceDiv, Int.reduceToNat, Int.reduceLT, Int.reduceLE, Bool.not_true, Bool.not_false, reduceIte, Int.reduceEq, Int.reduceBEq, Int.reduceBNe, Int.reduceGT, Int.reduceGE, Int.reduceNeg, Int.reduceAdd, Int.reduceSub, Nat.reduceBEq, decide_true, decide_false, undef, beq_self_eq_true, bne_self_eq_false, Bool.and_true, Bool.true_and, Bool.and_false, Bool.false_and, Bool.or_true, Bool.true_or, Bool.or_false, Bool.false_or, h1]
  refine ACallL.fresh1 h65 rfl ?_
  simp only [go_sem, Nat.reduceEqDiff, Nat.reduceAdd, Nat.reduceSub, Nat.reduceMul, Nat.reduceLT, Nat.reduceLeDiff, Nat.reduceMod, Nat.reduceDiv, Int.reduceToNat, Int.reduceLT, Int.reduceLE, Bool.not_true, Bool.not_false, reduceIte, Int.reduceEq, Int.reduceBEq, Int.reduceBNe, Int.reduceGT, Int.reduceGE, Int.reduceNeg, Int.reduceAdd, Int.reduceSub, Nat.reduceBEq, decide_true, decide_false, undef, beq_self_eq_true, bne_self_eq_false, Bool.and_true, Bool.true_and, Bool.and_false, Bool.false_and, Bool.or_true, Bool.true_or, Bool.or_false, Bool.false_or]
  refine awpL_loopK (2 ^ f.ss.length) (fun j s => s = { env := [(5, .t (vi j)), (4, .t (vi (bestW f j))), (1, .ptr 0 0)], σ := [.cells ((fl5 f).map .t)] }) ⟨_, Sub.gc [0] [5, 4, 1] rfl rfl, rfl⟩ ?_
  rintro j s hj rfl
  simp only [fl5, go_sem, Nat.reduceEqDiff, Nat.reduceAdd, Nat.reduceSub, Nat.reduceMul, Nat.reduceLT, Nat.reduceLeDiff, Nat.reduceMod, Nat.reduceDiv, Int.reduceToNat, Int.reduceLT, Int.reduceLE, Bool.not_true, Bool.not_false, reduceIte, Int.reduceEq, Int.reduceBEq, Int.reduceBNe, Int.reduceGT, Int.reduceGE, Int.reduceNeg, Int.reduceAdd, Int.reduceSub, Nat.reduceBEq, decide_true, decide_false, undef, beq_self_eq_true, bne_self_eq_false, Bool.and_true, Bool.true_and, Bool.and_false, Bool.false_and, Bool.or_true, Bool.true_or, Bool.or_false, Bool.false_or]
  refine ACallL.fresh1 h65 rfl ?_
  simp only [go_sem, Nat.reduceEqDiff, Nat.reduceAdd, Nat.reduceSub, Nat.reduceMul, Nat.reduceLT, Nat.reduceLeDiff, Nat.reduceMod, Nat.reduceDiv, Int.reduceToNat, Int.reduceLT, Int.reduceLE, Bool.not_true, Bool.not_false, reduceIte, Int.reduceEq, Int.reduceBEq, Int.reduceBNe, Int.reduceGT, Int.reduceGE, Int.reduceNeg, Int.reduceAdd, Int.reduceSub, Nat.reduceBEq, decide_true, decide_false, undef, beq_self_eq_true, bne_self_eq_false, Bool.and_true, Bool.true_and, Bool.and_false, Bool.false_and, Bool.or_true, Bool.true_or, Bool.or_false, Bool.false_or]
  refine BrL.mk (fun g => ?_) (fun g => ?_)
  · have hj' : j < 2 ^ f.ss.length := by simp at g; omega
    have hw : IntKind.i64.wrap ((j : Int) + 1) = ((j + 1 : Nat) : Int) := by rw [wrap_id (by omega) (by omega)]; omega
    have hb := bestW_lt f j (by omega)
    have w1 := rsize_ok j (by omega)
    have w2 := rsize_ok (bestW f j) (by omega)
    have hs : bestW f (j + 1) = if size j < size (bestW f j) ∧ good f j = true then j else bestW f j := rfl
    have h66 := rtruthsN_ok f hf (2 ^ f.ss.length - 1 - j) (by omega)
    have hgd : good f j = decide ((((truthsW f (2 ^ f.ss.length - 1 - j)).length : Nat) : Int) > 0) := by
      unfold good
      cases truthsW f (2 ^ f.ss.length - 1 - j) with
      | nil => rfl
      | cons x r => simp
    have hws : IntKind.i64.wrap (((2 ^ f.ss.length - 1 : Nat) : Int) - (j : Int)) = ((2 ^ f.ss.length - 1 - j : Nat) : Int) := by rw [wrap_id (by omega) (by omega)]; omega
    generalize truthsW f (2 ^ f.ss.length - 1 - j) = tw at *
    generalize good f j = gd at *
    generalize bestW f j = b at *
    generalize bestW f (j + 1) = b' at *
    generalize 2 ^ f.ss.length = P at *
    simp only [fl5] at h66
    simp only [g, go_sem, Nat.reduceEqDiff, Nat.reduceAdd, Nat.reduceSub, Nat.reduceMul, Nat.reduceLT, Nat.reduceLeDiff, Nat.reduceMod, Nat.reduceDiv, Int.reduceToNat, Int.reduceLT, Int.reduceLE, Bool.not_true, Bool.not_false, reduceIte, Int.reduceEq, Int.reduceBEq, Int.reduceBNe, Int.reduceGT, Int.reduceGE, Int.reduceNeg, Int.reduceAdd, Int.reduceSub, Nat.reduceBEq, decide_true, decide_false, undef, beq_self_eq_true, bne_self_eq_false, Bool.and_true, Bool.true_and, Bool.and_false, Bool.false_and, Bool.or_true, Bool.true_or, Bool.or_false, Bool.false_or]
    refine ACallL.fresh1 w1 rfl ?_
    simp only [go_sem, Nat.reduceEqDiff, Nat.reduceAdd, Nat.reduceSub, Nat.reduceMul, Nat.reduceLT, Nat.reduceLeDiff, Nat.reduceMod, Nat.reduceDiv, Int.reduceToNat, Int.reduceLT, Int.reduceLE, Bool.not_true, Bool.not_false, reduceIte, Int.reduceEq, Int.reduceBEq, Int.reduceBNe, Int.reduceGT, Int.reduceGE, Int.reduceNeg, Int.reduceAdd, Int.reduceSub, Nat.reduceBEq, decide_true, decide_false, undef, beq_self_eq_true, bne_self_eq_false, Bool.and_true, Bool.true_and, Bool.and_false, Bool.false_and, Bool.or_true, Bool.true_or, Bool.or_false, Bool.false_or]
    refine ACallL.fresh1 w2 rfl ?_
    cases h2 : decide ((size j : Int) < (size b : Int))
    · have h2' : ¬ size j < size b := by simp at h2; omega
      rw [if_neg (by omega)] at hs
      simp only [go_sem, Nat.reduceEqDiff, Nat.reduceAdd, Nat.reduceSub, Nat.reduceMul, Nat.reduceLT, Nat.reduceLeDiff, Nat.reduceMod, Nat.reduceDiv, Int.reduceToNat, Int.reduceLT, Int.reduceLE, Bool.not_true, Bool.not_false, reduceIte, Int.reduceEq, Int.reduceBEq, Int.reduceBNe, Int.reduceGT, Int.reduceGE, Int.reduceNeg, Int.reduceAdd, Int.reduceSub, Nat.reduceBEq, decide_true, decide_false, undef, beq_self_eq_true, bne_self_eq_false, Bool.and_true, Bool.true_and, Bool.and_false, Bool.false_and, Bool.or_true, Bool.true_or, Bool.or_false, Bool.false_or, h2, hw]
      refine ⟨hj', _, Sub.gc [0] [5, 4, 1] rfl rfl, ?_⟩
      rw [hs]
      rfl
    · have h2' : size j < size b := by simp at h2; omega
      simp only [go_sem, Nat.reduceEqDiff, Nat.reduceAdd, Nat.reduceSub, Nat.reduceMul, Nat.reduceLT, Nat.reduceLeDiff, Nat.reduceMod, Nat.reduceDiv, Int.reduceToNat, Int.reduceLT, Int.reduceLE, Bool.not_true, Bool.not_false, reduceIte, Int.reduceEq, Int.reduceBEq, Int.reduceBNe, Int.reduceGT, Int.reduceGE, Int.reduceNeg, Int.reduceAdd, Int.reduceSub, Nat.reduceBEq, decide_true, decide_false, undef, beq_self_eq_true, bne_self_eq_false, Bool.and_true, Bool.true_and, Bool.and_false, Bool.false_and, Bool.or_true, Bool.true_or, Bool.or_false, Bool.false_or, h2]
      refine ACallL.fresh1 h65 rfl ?_
      simp only [go_sem, Nat.reduceEqDiff, Nat.reduceAdd, Nat.reduceSub, Nat.reduceMul, Nat.reduceLT, Nat.reduceLeDiff, Nat.reduceMod, Nat.reduceDiv, Int.reduceToNat, Int.reduceLT, Int.reduceLE, Bool.not_true, Bool.not_false, reduceIte, Int.reduceEq, Int.reduceBEq, Int.reduceBNe, Int.reduceGT, Int.reduceGE, Int.reduceNeg, Int.reduceAdd, Int.reduceSub, Nat.reduceBEq, decide_true, decide_false, undef, beq_self_eq_true, bne_self_eq_false, Bool.and_true, Bool.true_and, Bool.and_false, Bool.false_and, Bool.or_true, Bool.true_or, Bool.or_false, Bool.false_or, h2, hws]
      refine ACallL.fresh1 h66 rfl ?_
      simp only [go_sem, Nat.reduceEqDiff, Nat.reduceAdd, Nat.reduceSub, Nat.reduceMul, Nat.reduceLT, Nat.reduceLeDiff, Nat.reduceMod, Nat.reduceDiv, Int.reduceToNat, Int.reduceLT, Int.reduceLE, Bool.not_true, Bool.not_false, reduceIte, Int.reduceEq, Int.reduceBEq, Int.reduceBNe, Int.reduceGT, Int.reduceGE, Int.reduceNeg, Int.reduceAdd, Int.reduceSub, Nat.reduceBEq, decide_true, decide_false, undef, beq_self_eq_true, bne_self_eq_false, Bool.and_true, Bool.true_and, Bool.and_false, Bool.false_and, Bool.or_true, Bool.true_or, Bool.or_false, Bool.false_or, h2, hws, List.length_map]
      cases h3 : decide (((tw.length : Nat) : Int) > 0)
      · rw [h3] at hgd
        rw [if_neg (by rw [hgd]; simp)] at hs
        simp only [go_sem, Nat.reduceEqDiff, Nat.reduceAdd, Nat.reduceSub, Nat.reduceMul, Nat.reduceLT, Nat.reduceLeDiff, Nat.reduceMod, Nat.reduceDiv, Int.reduceToNat, Int.reduceLT, Int.reduceLE, Bool.not_true, Bool.not_false, reduceIte, Int.reduceEq, Int.reduceBEq, Int.reduceBNe, Int.reduceGT, Int.reduceGE, Int.reduceNeg, Int.reduceAdd, Int.reduceSub, Nat.reduceBEq, decide_true, decide_false, undef, beq_self_eq_true, bne_self_eq_false, Bool.and_true, Bool.true_and, Bool.and_false, Bool.false_and, Bool.or_true, Bool.true_or, Bool.or_false, Bool.false_or, h2, hws, h3, hw, List.length_map]
        refine ⟨hj', _, Sub.gc [0] [5, 4, 1] rfl rfl, ?_⟩
        rw [hs]
        rfl
      · rw [h3] at hgd
        rw [if_pos ⟨h2', hgd⟩] at hs
        simp only [go_sem, Nat.reduceEqDiff, Nat.reduceAdd, Nat.reduceSub, Nat.reduceMul, Nat.reduceLT, Nat.reduceLeDiff, Nat.reduceMod, Nat.reduceDiv, Int.reduceToNat, Int.reduceLT, Int.reduceLE, Bool.not_true, Bool.not_false, reduceIte, Int.reduceEq, Int.reduceBEq, Int.reduceBNe, Int.reduceGT, Int.reduceGE, Int.reduceNeg, Int.reduceAdd, Int.reduceSub, Nat.reduceBEq, decide_true, decide_false, undef, beq_self_eq_true, bne_self_eq_false, Bool.and_true, Bool.true_and, Bool.and_false, Bool.false_and, Bool.or_true, Bool.true_or, Bool.or_false, Bool.false_or, h2, hws, h3, hw, List.length_map]
        refine ⟨hj', _, Sub.gc [0] [5, 4, 1] rfl rfl, ?_⟩
        rw [hs]
        rfl
  · have hjn : j = 2 ^ f.ss.length := by simp at g; omega
    subst hjn
    simp only [g, go_sem, Nat.reduceEqDiff, Nat.reduceAdd, Nat.reduceSub, Nat.reduceMul, Nat.reduceLT, Nat.reduceLeDiff, Nat.reduceMod, Nat.reduceDiv, Int.reduceToNat, Int.reduceLT, Int.reduceLE, Bool.not_true, Bool.not_false, reduceIte, Int.reduceEq, Int.reduceBEq, Int.reduceBNe, Int.reduceGT, Int.reduceGE, Int.reduceNeg, Int.reduceAdd, Int.reduceSub, Nat.reduceBEq, decide_true, decide_false, undef, beq_self_eq_true, bne_self_eq_false, Bool.and_true, Bool.true_and, Bool.and_false, Bool.false_and, Bool.or_true, Bool.true_or, Bool.or_false, Bool.false_or]
    exact finL_ret [] ⟨rfl, rfl, rfl, rfl, _, rfl, res_mk (by rw [hsp]; rfl)⟩
end Go.Proofs.YtkbjodmpmmnhgaaDoor
