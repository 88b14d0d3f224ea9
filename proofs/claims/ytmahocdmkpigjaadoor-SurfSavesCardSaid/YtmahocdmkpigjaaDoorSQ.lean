/- Proved here: laws that the statements need (SvA, SvB, SvC). No conditions but those that each law states. -/
import Derived.Test.YtmahocdmkpigjaaDoorSE
import Derived.Test.YtmahocdmkpigjaaDoorSG

set_option linter.unusedSimpArgs false
set_option linter.unusedVariables false

/- The document's rows in which a hut can be, and the first hour in which it can float. -/
namespace Go.Proofs.YtmahocdmkpigjaaDoor
open Go Go.Ab

def liI (step floor row w v : Int) : Bool := if row < 0 then false else decide (deepI step w row > 0) && decide (deepI step w row + v > floor)
theorem liI_K {step floor row w v : Int} (hr : -1 ≤ row) : liI step floor row w v = liftK step floor w v (row + 1).toNat := by
  unfold liI liftK
  by_cases h : row < 0
  · have : row = -1 := by omega
    subst this
    rfl
  · rw [if_neg h]
    have e : ((row + 1).toNat == 0) = false := beq_false_of_ne (by omega)
    have e2 : (((row + 1).toNat : Nat) : Int) - 1 = row := by omega
    rw [e, e2]
    rfl
def nxI (step : Int) (h : Hu) (row w v : Int) : Int := if liI step h.floor row w v && decide (v > h.brake) then row - 1 else row
theorem nxI_K {step : Int} {h : Hu} {row w v : Int} (hr : -1 ≤ row) : nxI step h row w v = ((nextK step h (row + 1).toNat (w, v) : Nat) : Int) - 1 := by
  unfold nxI nextK
  rw [liI_K hr]
  split
  · rename_i hc
    rw [Bool.and_eq_true] at hc
    have : (row + 1).toNat ≠ 0 := fun e => by rw [e, liftK_zero] at hc; cases hc.1
    omega
  · omega
theorem deep_bd {step w row : Int} (hs : 0 ≤ step ∧ step ≤ 4) (hw : 0 ≤ w ∧ w ≤ 30) (hr : 0 ≤ row ∧ row ≤ 5) : 0 ≤ step * row ∧ step * row ≤ 20 ∧ 0 ≤ deepI step w row ∧ deepI step w row ≤ 30 := by
  have h1 : step = 0 ∨ step = 1 ∨ step = 2 ∨ step = 3 ∨ step = 4 := by omega
  unfold deepI
  rcases h1 with rfl | rfl | rfl | rfl | rfl <;> omega
theorem rDeep_ok (s : Su) (hs : s.OK) {w row : Int} (hw : 0 ≤ w ∧ w ≤ 30) (hr : 0 ≤ row ∧ row ≤ 5) : ACall Tryd.prog 51 [.t (.agg (su5 s)), .t (vi w), .t (vi row)] [] (ret (vi (deepI s.step w row))) := by
  refine ACall.walk k51 ?_
  have hb := deep_bd hs.step hw hr
  have w1 : IntKind.i64.wrap (s.step * row) = s.step * row := wrap_id (by omega) (by omega)
  have w2 : IntKind.i64.wrap (w - s.step * row) = w - s.step * row := wrap_id (by omega) (by omega)
  unfold c51 su5
  simp only [go_sem, Nat.reduceEqDiff, Nat.reduceAdd, Nat.reduceSub, Nat.reduceMul, Nat.reduceLT, Nat.reduceLeDiff, Nat.reduceMod, Nat.reduceDiv, Int.reduceToNat, Int.reduceLT, Int.reduceLE, Bool.not_true, Bool.not_false, reduceIte, Int.reduceEq, Int.reduceBEq, Int.reduceBNe, Int.reduceGT, Int.reduceGE, Int.reduceNeg, Int.reduceAdd, Int.reduceSub, Nat.reduceBEq, decide_true, decide_false, undef, beq_self_eq_true, bne_self_eq_false, Bool.and_true, Bool.true_and, Bool.and_false, Bool.false_and, Bool.or_true, Bool.true_or, Bool.or_false, Bool.false_or, w1, w2]
  exact finL_ret [] ⟨rfl, rfl, rfl, rfl, _, rfl, res_mk rfl⟩
theorem rLifts_ok (s : Su) (hs : s.OK) {n : Nat} {h : Hu} (hg : s.huts[n]? = some h) {row w v : Int} (hw : 0 ≤ w ∧ w ≤ 30) (hv : 0 ≤ v ∧ v ≤ 10) (hr : row ≤ 5) : ACall Tryd.prog 83 [.t (.agg (su5 s)), .t (vi n), .t (vi row), .t (vi w), .t (vi v)] [] (ret (vb (liI s.step h.floor row w v))) := by
  refine ACall.walk k83 ?_
  have hn0 : ((n : Int) < 0) = False := eq_false (by omega)
  have hth : tHu h = .agg [vi h.floor, vi h.brake, vi h.row] := rfl
  cases g : decide (row < 0)
  rotate_left
  · have hr0 : row < 0 := of_decide_eq_true g
    have e : liI s.step h.floor row w v = false := by unfold liI; rw [if_pos hr0]
    rw [e]
    unfold c83 su5
    simp only [go_sem, Nat.reduceEqDiff, Nat.reduceAdd, Nat.reduceSub, Nat.reduceMul, Nat.reduceLT, Nat.reduceLeDiff, Nat.reduceMod, Nat.reduceDiv, Int.reduceToNat, Int.reduceLT, Int.reduceLE, Bool.not_true, Bool.not_false, reduceIte, Int.reduceEq, Int.reduceBEq, Int.reduceBNe, Int.reduceGT, Int.reduceGE, Int.reduceNeg, Int.reduceAdd, Int.reduceSub, Nat.reduceBEq, decide_true, decide_false, undef, beq_self_eq_true, bne_self_eq_false, Bool.and_true, Bool.true_and, Bool.and_false, Bool.false_and, Bool.or_true, Bool.true_or, Bool.or_false, Bool.false_or, g]
    exact finL_ret [] ⟨rfl, rfl, rfl, rfl, _, rfl, res_mk rfl⟩
  have hr0 : ¬ row < 0 := of_decide_eq_false g
  have q := rDeep_ok s hs hw (row := row) (by omega)
  have hb := deep_bd hs.step hw (row := row) (by omega)
  have e : liI s.step h.floor row w v = (decide (deepI s.step w row > 0) && decide (deepI s.step w row + v > h.floor)) := by unfold liI; rw [if_neg hr0]
  rw [e]
  generalize deepI s.step w row = d at *
  have w1 : IntKind.i64.wrap (d + v) = d + v := wrap_id (by omega) (by omega)
  unfold c83
  unfold su5 at q ⊢
  simp only [go_sem, Nat.reduceEqDiff, Nat.reduceAdd, Nat.reduceSub, Nat.reduceMul, Nat.reduceLT, Nat.reduceLeDiff, Nat.reduceMod, Nat.reduceDiv, Int.reduceToNat, Int.reduceLT, Int.reduceLE, Bool.not_true, Bool.not_false, reduceIte, Int.reduceEq, Int.reduceBEq, Int.reduceBNe, Int.reduceGT, Int.reduceGE, Int.reduceNeg, Int.reduceAdd, Int.reduceSub, Nat.reduceBEq, decide_true, decide_false, undef, beq_self_eq_true, bne_self_eq_false, Bool.and_true, Bool.true_and, Bool.and_false, Bool.false_and, Bool.or_true, Bool.true_or, Bool.or_false, Bool.false_or, g]
  refine ACallL.quiet1 q rfl rfl rfl ?_
  cases g2 : decide (d > 0)
  · simp only [go_sem, Nat.reduceEqDiff, Nat.reduceAdd, Nat.reduceSub, Nat.reduceMul, Nat.reduceLT, Nat.reduceLeDiff, Nat.reduceMod, Nat.reduceDiv, Int.reduceToNat, Int.reduceLT, Int.reduceLE, Bool.not_true, Bool.not_false, reduceIte, Int.reduceEq, Int.reduceBEq, Int.reduceBNe, Int.reduceGT, Int.reduceGE, Int.reduceNeg, Int.reduceAdd, Int.reduceSub, Nat.reduceBEq, decide_true, decide_false, undef, beq_self_eq_true, bne_self_eq_false, Bool.and_true, Bool.true_and, Bool.and_false, Bool.false_and, Bool.or_true, Bool.true_or, Bool.or_false, Bool.false_or, g2]
    exact finL_ret [] ⟨rfl, rfl, rfl, rfl, _, rfl, res_mk rfl⟩
  · simp only [go_sem, Nat.reduceEqDiff, Nat.reduceAdd, Nat.reduceSub, Nat.reduceMul, Nat.reduceLT, Nat.reduceLeDiff, Nat.reduceMod, Nat.reduceDiv, Int.reduceToNat, Int.reduceLT, Int.reduceLE, Bool.not_true, Bool.not_false, reduceIte, Int.reduceEq, Int.reduceBEq, Int.reduceBNe, Int.reduceGT, Int.reduceGE, Int.reduceNeg, Int.reduceAdd, Int.reduceSub, Nat.reduceBEq, decide_true, decide_false, undef, beq_self_eq_true, bne_self_eq_false, Bool.and_true, Bool.true_and, Bool.and_false, Bool.false_and, Bool.or_true, Bool.true_or, Bool.or_false, Bool.false_or, g2, hn0, List.getElem?_map, hg, Option.map_some, hth, w1]
    exact finL_ret [] ⟨rfl, rfl, rfl, rfl, _, rfl, res_mk rfl⟩
theorem rNext_ok (s : Su) (hs : s.OK) {n : Nat} {h : Hu} (hg : s.huts[n]? = some h) {row w v : Int} (hw : 0 ≤ w ∧ w ≤ 30) (hv : 0 ≤ v ∧ v ≤ 10) (hr : -1 ≤ row ∧ row ≤ 5) : ACall Tryd.prog 82 [.t (.agg (su5 s)), .t (vi n), .t (vi row), .t (vi w), .t (vi v)] [] (ret (vi (nxI s.step h row w v))) := by
  refine ACall.walk k82 ?_
  have hn0 : ((n : Int) < 0) = False := eq_false (by omega)
  have hth : tHu h = .agg [vi h.floor, vi h.brake, vi h.row] := rfl
  have q := rLifts_ok s hs hg hw hv hr.2
  have e : nxI s.step h row w v = if liI s.step h.floor row w v && decide (v > h.brake) then row - 1 else row := rfl
  rw [e]
  have w1 : IntKind.i64.wrap (row - 1) = row - 1 := wrap_id (by omega) (by omega)
  unfold c82
  unfold su5 at q ⊢
  simp only [go_sem, Nat.reduceEqDiff, Nat.reduceAdd, Nat.reduceSub, Nat.reduceMul, Nat.reduceLT, Nat.reduceLeDiff, Nat.reduceMod, Nat.reduceDiv, Int.reduceToNat, Int.reduceLT, Int.reduceLE, Bool.not_true, Bool.not_false, reduceIte, Int.reduceEq, Int.reduceBEq, Int.reduceBNe, Int.reduceGT, Int.reduceGE, Int.reduceNeg, Int.reduceAdd, Int.reduceSub, Nat.reduceBEq, decide_true, decide_false, undef, beq_self_eq_true, bne_self_eq_false, Bool.and_true, Bool.true_and, Bool.and_false, Bool.false_and, Bool.or_true, Bool.true_or, Bool.or_false, Bool.false_or]
  refine ACallL.quiet1 q rfl rfl rfl ?_
  cases g : liI s.step h.floor row w v
  · simp only [go_sem, Nat.reduceEqDiff, Nat.reduceAdd, Nat.reduceSub, Nat.reduceMul, Nat.reduceLT, Nat.reduceLeDiff, Nat.reduceMod, Nat.reduceDiv, Int.reduceToNat, Int.reduceLT, Int.reduceLE, Bool.not_true, Bool.not_false, reduceIte, Int.reduceEq, Int.reduceBEq, Int.reduceBNe, Int.reduceGT, Int.reduceGE, Int.reduceNeg, Int.reduceAdd, Int.reduceSub, Nat.reduceBEq, decide_true, decide_false, undef, beq_self_eq_true, bne_self_eq_false, Bool.and_true, Bool.true_and, Bool.and_false, Bool.false_and, Bool.or_true, Bool.true_or, Bool.or_false, Bool.false_or]
    exact finL_ret [] ⟨rfl, rfl, rfl, rfl, _, rfl, res_mk rfl⟩
  cases g2 : decide (v > h.brake)
  · simp only [go_sem, Nat.reduceEqDiff, Nat.reduceAdd, Nat.reduceSub, Nat.reduceMul, Nat.reduceLT, Nat.reduceLeDiff, Nat.reduceMod, Nat.reduceDiv, Int.reduceToNat, Int.reduceLT, Int.reduceLE, Bool.not_true, Bool.not_false, reduceIte, Int.reduceEq, Int.reduceBEq, Int.reduceBNe, Int.reduceGT, Int.reduceGE, Int.reduceNeg, Int.reduceAdd, Int.reduceSub, Nat.reduceBEq, decide_true, decide_false, undef, beq_self_eq_true, bne_self_eq_false, Bool.and_true, Bool.true_and, Bool.and_false, Bool.false_and, Bool.or_true, Bool.true_or, Bool.or_false, Bool.false_or, hn0, List.getElem?_map, hg, Option.map_some, hth, g2]
    exact finL_ret [] ⟨rfl, rfl, rfl, rfl, _, rfl, res_mk rfl⟩
  · simp only [go_sem, Nat.reduceEqDiff, Nat.reduceAdd, Nat.reduceSub, Nat.reduceMul, Nat.reduceLT, Nat.reduceLeDiff, Nat.reduceMod, Nat.reduceDiv, Int.reduceToNat, Int.reduceLT, Int.reduceLE, Bool.not_true, Bool.not_false, reduceIte, Int.reduceEq, Int.reduceBEq, Int.reduceBNe, Int.reduceGT, Int.reduceGE, Int.reduceNeg, Int.reduceAdd, Int.reduceSub, Nat.reduceBEq, decide_true, decide_false, undef, beq_self_eq_true, bne_self_eq_false, Bool.and_true, Bool.true_and, Bool.and_false, Bool.false_and, Bool.or_true, Bool.true_or, Bool.or_false, Bool.false_or, hn0, List.getElem?_map, hg, Option.map_some, hth, g2, w1]
    exact finL_ret [] ⟨rfl, rfl, rfl, rfl, _, rfl, res_mk rfl⟩

/-! ### A list with a number -/
def rwI (l : List Int) : AO := .row 1 ((l.map fun z : Int => vi z).map .t)
def addI (l : List Int) (v : Int) : List Int := if l.contains v then l else l ++ [v]
theorem addI_len (l : List Int) (v : Int) : (addI l v).length ≤ l.length + 1 := by unfold addI; split <;> simp
theorem mem_addI {l : List Int} {v x : Int} : x ∈ addI l v ↔ x ∈ l ∨ x = v := by
  unfold addI
  split
  · rename_i h
    rw [List.contains_iff_mem] at h
    constructor
    · exact .inl
    · rintro (h1 | rfl)
      · exact h1
      · exact h
  · simp
set_option maxRecDepth 8000 in
theorem radd_ok (l : List Int) (v : Int) (hl : l.length < 100000) : ACall Tryd.prog 81 [.loc 0 l.length, .t (vi v)] [rwI l] (fun o σ' => o = .ret (.loc 0 (addI l v).length) ∧ σ' = [rwI (addI l v)]) := by
  refine ACall.walk k81 ?_
  unfold c81
  have gk : ∀ m : List Int, σgc [0] [rwI m] 12 = [rwI m] := fun m => by
    unfold σgc rwI
    simp only [List.map_cons, List.map_nil, List.getD_cons_zero, AO.gc, gc_row]
  simp only [go_sem, Nat.reduceEqDiff, Nat.reduceAdd, Nat.reduceSub, Nat.reduceMul, Nat.reduceLT, Nat.reduceLeDiff, Nat.reduceMod, Nat.reduceDiv, Int.reduceToNat, Int.reduceLT, Int.reduceLE, Bool.not_true, Bool.not_false, reduceIte, Int.reduceEq, Int.reduceBEq, Int.reduceBNe, Int.reduceGT, Int.reduceGE, Int.reduceNeg, Int.reduceAdd, Int.reduceSub, Nat.reduceBEq, decide_true, decide_false, undef, beq_self_eq_true, bne_self_eq_false, Bool.and_true, Bool.true_and, Bool.and_false, Bool.false_and, Bool.or_true, Bool.true_or, Bool.or_false, Bool.false_or]
  refine awpL_loopK l.length (fun j s => (∀ x ∈ l.take j, x ≠ v) ∧ s = { env := [(5, .t (vi j)), (0, .loc 0 l.length), (1, .t (vi v))], σ := [rwI l] })
    ⟨_, Sub.gc [0] [5, 0, 1] rfl rfl, by simp, St.gc_mk rfl (gk l) rfl rfl⟩ ?_
  rintro j s hj ⟨hK, rfl⟩
  have hj0 : ((j : Int) < 0) = False := eq_false (by omega)
  have hwj : IntKind.i64.wrap ((j : Int) + 1) = ((j + 1 : Nat) : Int) := by rw [wrap_id (by omega) (by omega)]; omega
  cases g : decide ((j : Int) < l.length)
  · have hje : j = l.length := by have := of_decide_eq_false g; omega
    rw [hje, List.take_length] at hK
    have hc : l.contains v = false := by
      cases h : l.contains v
      · rfl
      · rw [List.contains_iff_mem] at h
        exact absurd rfl (hK v h)
    have ha : addI l v = l ++ [v] := by unfold addI; rw [hc]; rfl
    rw [ha]
    have x1 : (l.length + 1 ≤ maxLen) = True := eq_true (by unfold maxLen; omega)
    have x2 : ((l.length + 1) * 8 ≤ 140737488355328) = True := eq_true (by omega)
    have happ : ((l.map fun z : Int => vi z).map E.t) ++ [E.t (vi v)] = (((l ++ [v]).map fun z : Int => vi z).map E.t) := by simp
    have hl1 : (l ++ [v]).length = l.length + 1 := by simp
    unfold rwI
    simp only [go_sem, Nat.reduceEqDiff, Nat.reduceAdd, Nat.reduceSub, Nat.reduceMul, Nat.reduceLT, Nat.reduceLeDiff, Nat.reduceMod, Nat.reduceDiv, Int.reduceToNat, Int.reduceLT, Int.reduceLE, Bool.not_true, Bool.not_false, reduceIte, Int.reduceEq, Int.reduceBEq, Int.reduceBNe, Int.reduceGT, Int.reduceGE, Int.reduceNeg, Int.reduceAdd, Int.reduceSub, Nat.reduceBEq, decide_true, decide_false, undef, beq_self_eq_true, bne_self_eq_false, Bool.and_true, Bool.true_and, Bool.and_false, Bool.false_and, Bool.or_true, Bool.true_or, Bool.or_false, Bool.false_or, List.length_map, g, x1, x2, happ]
    refine finL_ret [0] ⟨rfl, rfl, rfl, rfl, _, rfl, ?_, ?_⟩
    · rw [hl1]; rfl
    · unfold σgc
      simp only [List.map_cons, List.map_nil, List.getD_cons_zero, AO.gc, gc_row]
  have hjl : j < l.length := by have := of_decide_eq_true g; omega
  have hjj : ((j : Int) < (l.length : Int)) = True := eq_true (by omega)
  have hx : l[j]? = some l[j] := List.getElem?_eq_getElem hjl
  have tx : l.take (j + 1) = l.take j ++ [l[j]] := by rw [List.take_add_one, hx]; rfl
  have mx := List.getElem_mem hjl
  generalize l[j] = x at *
  cases h : x == v
  · have hne : x ≠ v := fun e => by rw [e] at h; simp at h
    unfold rwI
    simp only [go_sem, Nat.reduceEqDiff, Nat.reduceAdd, Nat.reduceSub, Nat.reduceMul, Nat.reduceLT, Nat.reduceLeDiff, Nat.reduceMod, Nat.reduceDiv, Int.reduceToNat, Int.reduceLT, Int.reduceLE, Bool.not_true, Bool.not_false, reduceIte, Int.reduceEq, Int.reduceBEq, Int.reduceBNe, Int.reduceGT, Int.reduceGE, Int.reduceNeg, Int.reduceAdd, Int.reduceSub, Nat.reduceBEq, decide_true, decide_false, undef, beq_self_eq_true, bne_self_eq_false, Bool.and_true, Bool.true_and, Bool.and_false, Bool.false_and, Bool.or_true, Bool.true_or, Bool.or_false, Bool.false_or, List.length_map, g, hj0, hjj, List.getElem?_map, hx, Option.map_some, h, hwj]
    refine ⟨hjl, _, Sub.gc [0] [5, 0, 1] rfl rfl, fun y hy => ?_, St.gc_mk rfl (gk l) rfl rfl⟩
    rw [tx] at hy
    rcases List.mem_append.1 hy with hy | hy
    · exact hK y hy
    · rw [List.mem_singleton] at hy; rw [hy]; exact hne
  · have he : x = v := by simpa using h
    have ha : addI l v = l := by
      unfold addI
      rw [if_pos (by rw [List.contains_iff_mem, ← he]; exact mx)]
    rw [ha]
    unfold rwI
    simp only [go_sem, Nat.reduceEqDiff, Nat.reduceAdd, Nat.reduceSub, Nat.reduceMul, Nat.reduceLT, Nat.reduceLeDiff, Nat.reduceMod, Nat.reduceDiv, Int.reduceToNat, Int.reduceLT, Int.reduceLE, Bool.not_true, Bool.not_false, reduceIte, Int.reduceEq, Int.reduceBEq, Int.reduceBNe, Int.reduceGT, Int.reduceGE, Int.reduceNeg, Int.reduceAdd, Int.reduceSub, Nat.reduceBEq, decide_true, decide_false, undef, beq_self_eq_true, bne_self_eq_false, Bool.and_true, Bool.true_and, Bool.and_false, Bool.false_and, Bool.or_true, Bool.true_or, Bool.or_false, Bool.false_or, List.length_map, g, hj0, hjj, List.getElem?_map, hx, Option.map_some, h]
    refine finL_ret [0] ⟨rfl, rfl, rfl, rfl, _, rfl, rfl, gk l⟩
theorem rens_TI (ρ : Nat → Nat) : ∀ l : List T, E.rens ρ (l.map .t) = l.map .t := fun l => by
  rw [E.rens_map, List.map_map]
  rfl
/-- The same over whatever store. -/
theorem radd_at {l : List Int} {v : Int} (hl : l.length < 100000) {p : Nat} {σ : List AO} {R : Lz (Out → List AO → Prop)} (hp : σ[p]? = some (rwI l)) (hk : R.get (.ret (.loc p (addI l v).length)) (σ.set p (rwI (addI l v)))) : @ACallL Tryd.prog 81 [.loc p l.length, .t (vi v)] σ R := by
  have h := radd_ok l v hl
  have hpl := (List.getElem?_eq_some_iff.1 hp).1
  have e0 : lendR [p] σ.length 0 = p := rfl
  have hb : ∀ m : List Int, (rwI m).ren (lendR [p] σ.length) = rwI m := fun m => by
    show AO.row 1 (E.rens _ ((m.map fun z : Int => vi z).map .t)) = _
    rw [rens_TI]; rfl
  refine ACall.mono (ACall.lend [p] h (by simp) (by simp; omega) rfl (fun i o ho => ?_) (args := [.loc p l.length, .t (vi v)]) (by simp [E.rens_map, E.ren, e0])) ?_
  · match i, ho with
    | 0, ho => simp at ho; subst ho; rw [hb]; exact hp
  · rintro o σ1 ⟨o0, σ0, ⟨rfl, rfl⟩, _, rfl, rfl⟩
    simp only [List.map_cons, List.map_nil, lendB, Out.ren, E.ren, List.append_nil, e0, hb]
    exact hk
end Go.Proofs.YtmahocdmkpigjaaDoor

/- The document's rows in which a hut can be. -/
namespace Go.Proofs.YtmahocdmkpigjaaDoor
open Go Go.Ab

def foD (step : Int) (h : Hu) (row a : Int) (y : Sp) (k : Nat) (l : List Int) : List Int := (List.range k).foldl (fun l (j : Nat) => addI l (nxI step h row a (y.1 + (j : Int)))) l
def foC (step : Int) (h : Hu) (row : Int) (x y : Sp) (k : Nat) (l : List Int) : List Int := (List.range k).foldl (fun l (j : Nat) => foD step h row (x.1 + (j : Int)) y (numS y) l) l
def foB (step : Int) (h : Hu) (rows : List Int) (x y : Sp) (l : List Int) : List Int := rows.foldl (fun l row => foC step h row x y (numS x) l) l
def canR (s : Su) (h : Hu) : Nat → List Int
  | 0 => [h.row]
  | t + 1 => foB s.step h (canR s h t) (s.water.getD t (0, 0)) (s.waves.getD t (0, 0)) []
theorem foD_zero {step : Int} {h : Hu} {row a : Int} {y : Sp} {l : List Int} : foD step h row a y 0 l = l := rfl
theorem foC_zero {step : Int} {h : Hu} {row : Int} {x y : Sp} {l : List Int} : foC step h row x y 0 l = l := rfl
theorem foD_succ {step : Int} {h : Hu} {row a : Int} {y : Sp} {k : Nat} {l : List Int} : foD step h row a y (k + 1) l = addI (foD step h row a y k l) (nxI step h row a (y.1 + (k : Int))) := by
  unfold foD; rw [List.range_succ, List.foldl_append]; rfl
theorem foC_succ {step : Int} {h : Hu} {row : Int} {x y : Sp} {k : Nat} {l : List Int} : foC step h row x y (k + 1) l = foD step h row (x.1 + (k : Int)) y (numS y) (foC step h row x y k l) := by
  unfold foC; rw [List.range_succ, List.foldl_append]; rfl
theorem foB_snoc {step : Int} {h : Hu} {rows : List Int} {r : Int} {x y : Sp} {l : List Int} : foB step h (rows ++ [r]) x y l = foC step h r x y (numS x) (foB step h rows x y l) := by
  unfold foB; rw [List.foldl_append]; rfl
/-- The rows are few. -/
def Few (l : List Int) : Prop := l.Nodup ∧ ∀ x ∈ l, -1 ≤ x ∧ x ≤ 5
theorem Few.len {l : List Int} (h : Few l) : l.length ≤ 7 := by
  have := h.1.length_le_of_subset (l₂ := (List.range 7).map fun i : Nat => (i : Int) - 1) (fun x hx => by
    have := h.2 x hx
    exact List.mem_map.2 ⟨(x + 1).toNat, List.mem_range.2 (by omega), by omega⟩)
  simpa using this
theorem FewA {l : List Int} {v : Int} (h : Few l) (hv : -1 ≤ v ∧ v ≤ 5) : Few (addI l v) := by
  refine ⟨?_, fun x hx => ?_⟩
  · unfold addI
    split
    · exact h.1
    · rename_i hc
      rw [List.contains_iff_mem] at hc
      refine List.nodup_append.2 ⟨h.1, by simp, fun a ha b hb => ?_⟩
      rw [List.mem_singleton] at hb
      subst hb
      exact fun e => hc (e ▸ ha)
  · rcases mem_addI.1 hx with hx | rfl
    · exact h.2 x hx
    · exact hv
theorem nxI_rng {step : Int} {h : Hu} {row w v : Int} (hr : -1 ≤ row ∧ row ≤ 5) : -1 ≤ nxI step h row w v ∧ nxI step h row w v ≤ 5 := by
  unfold nxI
  split
  · rename_i hc
    rw [Bool.and_eq_true] at hc
    have : ¬ row < 0 := fun e => by
      have := hc.1
      unfold liI at this
      rw [if_pos e] at this
      cases this
    omega
  · exact hr
theorem FewD {step : Int} {h : Hu} {row a : Int} {y : Sp} (hr : -1 ≤ row ∧ row ≤ 5) {l : List Int} (hl : Few l) : ∀ k, Few (foD step h row a y k l)
  | 0 => hl
  | k + 1 => by rw [foD_succ]; exact FewA (FewD hr hl k) (nxI_rng hr)
theorem FewC {step : Int} {h : Hu} {row : Int} {x y : Sp} (hr : -1 ≤ row ∧ row ≤ 5) {l : List Int} (hl : Few l) : ∀ k, Few (foC step h row x y k l)
  | 0 => hl
  | k + 1 => by rw [foC_succ]; exact FewD hr (FewC hr hl k) _
theorem FewB {step : Int} {h : Hu} {x y : Sp} : ∀ {rows : List Int}, (∀ r ∈ rows, -1 ≤ r ∧ r ≤ 5) → ∀ {l : List Int}, Few l → Few (foB step h rows x y l)
  | [], _, _, hl => hl
  | r :: rows, hr, l, hl => by
    show Few (foB step h rows x y _)
    exact FewB (fun z hz => hr z (by simp [hz])) (FewC (hr r (by simp)) hl _)
theorem FewR {s : Su} {h : Hu} (hr : -1 ≤ h.row ∧ h.row ≤ 5) : ∀ t, Few (canR s h t)
  | 0 => ⟨by simp [canR], fun x hx => by simp [canR] at hx; subst hx; exact hr⟩
  | t + 1 => FewB (FewR hr t).2 ⟨by simp, by simp⟩

theorem mem_foD {step : Int} {h : Hu} {row a : Int} {y : Sp} {l : List Int} {v : Int} : ∀ {k : Nat}, v ∈ foD step h row a y k l ↔ v ∈ l ∨ ∃ j : Nat, j < k ∧ v = nxI step h row a (y.1 + (j : Int))
  | 0 => by simp [foD]
  | k + 1 => by
    rw [foD_succ, mem_addI, mem_foD (k := k)]
    constructor
    · rintro ((h | ⟨j, hj, e⟩) | e)
      · exact .inl h
      · exact .inr ⟨j, by omega, e⟩
      · exact .inr ⟨k, by omega, e⟩
    · rintro (h | ⟨j, hj, e⟩)
      · exact .inl (.inl h)
      · by_cases c : j = k
        · subst c; exact .inr e
        · exact .inl (.inr ⟨j, by omega, e⟩)
theorem mem_foC {step : Int} {h : Hu} {row : Int} {x y : Sp} {l : List Int} {v : Int} : ∀ {k : Nat}, v ∈ foC step h row x y k l ↔ v ∈ l ∨ ∃ i j : Nat, i < k ∧ j < numS y ∧ v = nxI step h row (x.1 + (i : Int)) (y.1 + (j : Int))
  | 0 => by simp [foC]
  | k + 1 => by
    rw [foC_succ, mem_foD, mem_foC (k := k)]
    constructor
    · rintro ((h | ⟨i, j, hi, hj, e⟩) | ⟨j, hj, e⟩)
      · exact .inl h
      · exact .inr ⟨i, j, by omega, hj, e⟩
      · exact .inr ⟨k, j, by omega, hj, e⟩
    · rintro (h | ⟨i, j, hi, hj, e⟩)
      · exact .inl (.inl h)
      · by_cases c : i = k
        · subst c; exact .inr ⟨j, hj, e⟩
        · exact .inl (.inr ⟨i, j, by omega, hj, e⟩)
theorem mem_foB {step : Int} {h : Hu} {x y : Sp} {v : Int} : ∀ {rows l : List Int}, v ∈ foB step h rows x y l ↔ v ∈ l ∨ ∃ r ∈ rows, ∃ i j : Nat, i < numS x ∧ j < numS y ∧ v = nxI step h r (x.1 + (i : Int)) (y.1 + (j : Int))
  | [], l => by simp [foB]
  | r :: rows, l => by
    show v ∈ foB step h rows x y _ ↔ _
    rw [mem_foB (rows := rows), mem_foC]
    simp only [List.mem_cons, exists_eq_or_imp, or_assoc]
theorem hoursP_mem {x y : Sp} {o : Hour} : o ∈ hoursP x y ↔ ∃ i j : Nat, i < numS x ∧ j < numS y ∧ o = (x.1 + (i : Int), y.1 + (j : Int)) := by
  unfold hoursP hourRow
  simp only [List.mem_flatMap, List.mem_map, List.mem_range]
  constructor
  · rintro ⟨i, hi, j, hj, rfl⟩; exact ⟨i, j, hi, hj, rfl⟩
  · rintro ⟨i, j, hi, hj, rfl⟩; exact ⟨i, hi, j, hj, rfl⟩
/-- The document's rows are those of the truths. -/
theorem canR_mem (s : Su) (h : Hu) (hr : 0 ≤ h.row ∧ h.row < 6) : ∀ (t : Nat) (v : Int), v ∈ canR s h t ↔ -1 ≤ v ∧ (logS s h t).testBit (v + 1).toNat = true
  | 0, v => by
    show v ∈ [h.row] ↔ -1 ≤ v ∧ (2 ^ (h.row.toNat + 1)).testBit (v + 1).toNat = true
    rw [List.mem_singleton, Nat.testBit_two_pow, decide_eq_true_eq]
    omega
  | t + 1, v => by
    show v ∈ foB s.step h (canR s h t) _ _ [] ↔ -1 ≤ v ∧ (foldP (stG s h) (hoursL s t) (logS s h t) 0 8).testBit (v + 1).toNat = true
    rw [foldPG_bit, mem_foB]
    simp only [Nat.zero_testBit, Bool.false_eq_true, false_or, List.not_mem_nil, canR_mem s h hr t]
    unfold hoursL
    constructor
    · rintro ⟨r, ⟨h1, h2⟩, i, j, hi, hj, rfl⟩
      have h5 : r ≤ 5 := ((FewR (s := s) (h := h) (by omega) t).2 r ((canR_mem s h hr t r).2 ⟨h1, h2⟩)).2
      rw [nxI_K h1]
      refine ⟨by omega, (r + 1).toNat, by omega, h2, _, hoursP_mem.2 ⟨i, j, hi, hj, rfl⟩, ?_⟩
      omega
    · rintro ⟨hv, k, hk, h2, o, ho, e⟩
      obtain ⟨i, j, hi, hj, rfl⟩ := hoursP_mem.1 ho
      have e2 : ((k : Int) - 1 + 1).toNat = k := by omega
      refine ⟨(k : Int) - 1, ⟨by omega, by rw [e2]; exact h2⟩, i, j, hi, hj, ?_⟩
      rw [nxI_K (by omega), e2, e]
      omega

/-! ### The walk -/
theorem gk2 (l : List Int) (c : AO) (hc : AO.gc [0, 1] [c, rwI l] 12 c = c) : σgc [0, 1] [c, rwI l] 12 = [c, rwI l] := by
  unfold σgc
  simp only [List.map_cons, List.map_nil, List.getD_cons_zero, List.getD_cons_succ, hc]
  unfold rwI
  simp only [AO.gc, gc_row]
theorem gk3 (a b : List Int) (c : AO) (hc : AO.gc [0, 1, 2] [c, rwI a, rwI b] 12 c = c) : σgc [0, 1, 2] [c, rwI a, rwI b] 12 = [c, rwI a, rwI b] := by
  unfold σgc
  simp only [List.map_cons, List.map_nil, List.getD_cons_zero, List.getD_cons_succ, hc]
  unfold rwI
  simp only [AO.gc, gc_row]
set_option maxRecDepth 8000 in
set_option maxHeartbeats 8000000 in
theorem rcan_ok (s : Su) (hs : s.OK) {n : Nat} {h : Hu} (hg : s.huts[n]? = some h) {t : Nat} (ht : t ≤ s.water.length) : ACall Tryd.prog 57 [.t (.agg (su5 s)), .t (vi n), .t (vi t)] [] (res (.ret (.t (tI (canR s h t))))) := by
  refine ACall.walk k57 ?_
  have hn0 : ((n : Int) < 0) = False := eq_false (by omega)
  have hth : tHu h = .agg [vi h.floor, vi h.brake, vi h.row] := rfl
  have hh := hs.huts h (List.mem_of_getElem? hg)
  have hrow : -1 ≤ h.row ∧ h.row ≤ 5 := by have := hs.rows; simp only [Hu.OK] at hh; omega
  have hnw := hs.nw
  have hnv := hs.nv
  have q82 := fun (row w v : Int) (hw : 0 ≤ w ∧ w ≤ 30) (hv : 0 ≤ v ∧ v ≤ 10) (hr : -1 ≤ row ∧ row ≤ 5) => rNext_ok s hs hg hw hv hr
  unfold c57
  unfold su5 at q82 ⊢
  have e0 : AO.row 1 [E.t (vi h.row)] = rwI (canR s h 0) := rfl
  have e0l : (canR s h 0).length = 1 := rfl
  simp only [go_sem, Nat.reduceEqDiff, Nat.reduceAdd, Nat.reduceSub, Nat.reduceMul, Nat.reduceLT, Nat.reduceLeDiff, Nat.reduceMod, Nat.reduceDiv, Int.reduceToNat, Int.reduceLT, Int.reduceLE, Bool.not_true, Bool.not_false, reduceIte, Int.reduceEq, Int.reduceBEq, Int.reduceBNe, Int.reduceGT, Int.reduceGE, Int.reduceNeg, Int.reduceAdd, Int.reduceSub, Nat.reduceBEq, decide_true, decide_false, undef, beq_self_eq_true, bne_self_eq_false, Bool.and_true, Bool.true_and, Bool.and_false, Bool.false_and, Bool.or_true, Bool.true_or, Bool.or_false, Bool.false_or, hn0, List.getElem?_map, hg, Option.map_some, hth]
  refine awpL_loopK t (fun j st => st = { env := [(8, .t (vi j)), (1, .t (vi n)), (2, .t (vi t)), (3, .ptr 0 0), (7, .loc 1 (canR s h j).length)], σ := [.cells ((su5 s).map .t), rwI (canR s h j)] })
    ⟨_, Sub.gc [0, 1] [8, 1, 2, 3, 7] rfl rfl, St.gc_mk rfl (gk2 [h.row] (AO.cells ((su5 s).map .t)) rfl) rfl rfl⟩ ?_
  rintro j st hj rfl
  have hFew := FewR (s := s) hrow j
  have hwj : IntKind.i64.wrap ((j : Int) + 1) = ((j + 1 : Nat) : Int) := by rw [wrap_id (by omega) (by omega)]; omega
  cases g : decide ((j : Int) < t)
  · have hje : j = t := by have := of_decide_eq_false g; omega
    subst hje
    generalize canR s h j = L at *
    simp only [go_sem, Nat.reduceEqDiff, Nat.reduceAdd, Nat.reduceSub, Nat.reduceMul, Nat.reduceLT, Nat.reduceLeDiff, Nat.reduceMod, Nat.reduceDiv, Int.reduceToNat, Int.reduceLT, Int.reduceLE, Bool.not_true, Bool.not_false, reduceIte, Int.reduceEq, Int.reduceBEq, Int.reduceBNe, Int.reduceGT, Int.reduceGE, Int.reduceNeg, Int.reduceAdd, Int.reduceSub, Nat.reduceBEq, decide_true, decide_false, undef, beq_self_eq_true, bne_self_eq_false, Bool.and_true, Bool.true_and, Bool.and_false, Bool.false_and, Bool.or_true, Bool.true_or, Bool.or_false, Bool.false_or, g]
    refine finL_ret [] ⟨rfl, rfl, rfl, rfl, _, rfl, ?_, rfl⟩
    show Out.ret (E.gc [] [AO.cells ((su5 s).map .t), rwI L] 12 (.loc 1 L.length)) = _
    congr 1
    exact gc_loc (n := 10) (id := 1) (xs := L.map vi) rfl rfl (by simp)
  have hjt : j < t := by have := of_decide_eq_true g; omega
  have hj0 : ((j : Int) < 0) = False := eq_false (by omega)
  have hx : s.water[j]? = some s.water[j] := List.getElem?_eq_getElem (by omega)
  have hy : s.waves[j]? = some s.waves[j] := List.getElem?_eq_getElem (by omega)
  have nx := hs.water _ (List.getElem_mem (show j < s.water.length by omega))
  have ny := hs.waves _ (List.getElem_mem (show j < s.waves.length by omega))
  have eS : canR s h (j + 1) = foB s.step h (canR s h j) (s.water.getD j (0, 0)) (s.waves.getD j (0, 0)) [] := rfl
  rw [List.getD_eq_getElem?_getD, List.getD_eq_getElem?_getD, hx, hy, Option.getD_some, Option.getD_some] at eS
  rw [eS]
  generalize s.water[j] = x at *
  generalize s.waves[j] = y at *
  generalize canR s h j = L at *
  have hLl := hFew.len
  have fB := fun k => FewB (step := s.step) (h := h) (x := x) (y := y) (rows := L.take k) (fun r hr => hFew.2 r (List.mem_of_mem_take hr)) (l := []) ⟨by simp, by simp⟩
  have hxs : (x.2 < x.1 + (numS x : Int)) ∧ (x.1 + (numS x : Int) ≤ x.2 + 1) := by unfold numS; unfold Near at nx; omega
  have hys : (y.2 < y.1 + (numS y : Int)) ∧ (y.1 + (numS y : Int) ≤ y.2 + 1) := by unfold numS; unfold Near at ny; omega
  unfold Near at nx ny
  have htx : tSp x = .agg [vi x.1, vi x.2] := rfl
  have hty : tSp y = .agg [vi y.1, vi y.2] := rfl
  unfold rwI su5
  simp only [go_sem, Nat.reduceEqDiff, Nat.reduceAdd, Nat.reduceSub, Nat.reduceMul, Nat.reduceLT, Nat.reduceLeDiff, Nat.reduceMod, Nat.reduceDiv, Int.reduceToNat, Int.reduceLT, Int.reduceLE, Bool.not_true, Bool.not_false, reduceIte, Int.reduceEq, Int.reduceBEq, Int.reduceBNe, Int.reduceGT, Int.reduceGE, Int.reduceNeg, Int.reduceAdd, Int.reduceSub, Nat.reduceBEq, decide_true, decide_false, undef, beq_self_eq_true, bne_self_eq_false, Bool.and_true, Bool.true_and, Bool.and_false, Bool.false_and, Bool.or_true, Bool.true_or, Bool.or_false, Bool.false_or, g]
  refine awpL_loopK L.length (fun k st => st = { env := [(10, .t (vi k)), (1, .t (vi n)), (2, .t (vi t)), (3, .ptr 0 0), (7, .loc 1 L.length), (8, .t (vi j)), (9, .loc 2 (foB s.step h (L.take k) x y []).length)], σ := [.cells ((su5 s).map .t), rwI L, rwI (foB s.step h (L.take k) x y [])] })
    ⟨_, (Sub.ghost 9 1 (by decide) rfl).trans (Sub.gc [0, 1, 2] [10, 1, 2, 3, 7, 8, 9] rfl rfl), St.gc_mk rfl (gk3 L [] _ rfl) rfl rfl⟩ ?_
  rintro k st hk rfl
  have fk := fB k
  have hwk : IntKind.i64.wrap ((k : Int) + 1) = ((k + 1 : Nat) : Int) := by rw [wrap_id (by omega) (by omega)]; omega
  cases g2 : decide ((k : Int) < L.length)
  · have hke : k = L.length := by have := of_decide_eq_false g2; omega
    subst hke
    rw [List.take_length] at *
    generalize foB s.step h L x y [] = N at *
    unfold rwI su5
    simp only [go_sem, Nat.reduceEqDiff, Nat.reduceAdd, Nat.reduceSub, Nat.reduceMul, Nat.reduceLT, Nat.reduceLeDiff, Nat.reduceMod, Nat.reduceDiv, Int.reduceToNat, Int.reduceLT, Int.reduceLE, Bool.not_true, Bool.not_false, reduceIte, Int.reduceEq, Int.reduceBEq, Int.reduceBNe, Int.reduceGT, Int.reduceGE, Int.reduceNeg, Int.reduceAdd, Int.reduceSub, Nat.reduceBEq, decide_true, decide_false, undef, beq_self_eq_true, bne_self_eq_false, Bool.and_true, Bool.true_and, Bool.and_false, Bool.false_and, Bool.or_true, Bool.true_or, Bool.or_false, Bool.false_or, List.length_map, g2, hwj]
    refine ⟨hjt, _, Sub.gc [0, 2] [8, 1, 2, 3, 7] rfl rfl, ?_⟩
    refine St.gc_mk rfl ?_ rfl rfl
    unfold σgc
    simp only [List.map_cons, List.map_nil, List.getD_cons_zero, List.getD_cons_succ, AO.gc, gc_row]
    rfl
  have hkl : k < L.length := by have := of_decide_eq_true g2; omega
  have hk0 : ((k : Int) < 0) = False := eq_false (by omega)
  have hkk : ((k : Int) < (L.length : Int)) = True := eq_true (by omega)
  have hr : L[k]? = some L[k] := List.getElem?_eq_getElem hkl
  have hr5 := hFew.2 _ (List.getElem_mem hkl)
  have tr : L.take (k + 1) = L.take k ++ [L[k]] := List.take_succ_eq_append_getElem hkl
  rw [tr, foB_snoc]
  generalize L[k] = r at *
  generalize foB s.step h (L.take k) x y [] = N at *
  have fC := fun m => FewC (step := s.step) (h := h) (x := x) (y := y) hr5 fk m
  unfold rwI su5
  simp only [go_sem, Nat.reduceEqDiff, Nat.reduceAdd, Nat.reduceSub, Nat.reduceMul, Nat.reduceLT, Nat.reduceLeDiff, Nat.reduceMod, Nat.reduceDiv, Int.reduceToNat, Int.reduceLT, Int.reduceLE, Bool.not_true, Bool.not_false, reduceIte, Int.reduceEq, Int.reduceBEq, Int.reduceBNe, Int.reduceGT, Int.reduceGE, Int.reduceNeg, Int.reduceAdd, Int.reduceSub, Nat.reduceBEq, decide_true, decide_false, undef, beq_self_eq_true, bne_self_eq_false, Bool.and_true, Bool.true_and, Bool.and_false, Bool.false_and, Bool.or_true, Bool.true_or, Bool.or_false, Bool.false_or, List.length_map, g2, hj0, List.getElem?_map, hx, hy, Option.map_some, htx, hty]
  refine awpL_loopK (numS x) (fun m st => st = { env := [(11, .t (vi (x.1 + (m : Int)))), (1, .t (vi n)), (2, .t (vi t)), (3, .ptr 0 0), (7, .loc 1 L.length), (8, .t (vi j)), (9, .loc 2 (foC s.step h r x y m N).length), (10, .t (vi k))], σ := [.cells ((su5 s).map .t), rwI L, rwI (foC s.step h r x y m N)] })
    ⟨_, Sub.gc [0, 1, 2] [11, 1, 2, 3, 7, 8, 9, 10] rfl rfl, ?_⟩ ?_
  · rw [foC_zero]
    refine St.gc_mk ?_ (gk3 L N _ rfl) rfl rfl
    simp only [Int.natCast_zero, Int.add_zero]; rfl
  rintro m st hm rfl
  have fm := fC m
  cases g3 : decide (x.1 + (m : Int) ≤ x.2)
  · have hme : m = numS x := by have := of_decide_eq_false g3; omega
    rw [hme] at g3 ⊢
    generalize foC s.step h r x y (numS x) N = N2 at *
    unfold rwI su5
    simp only [go_sem, Nat.reduceEqDiff, Nat.reduceAdd, Nat.reduceSub, Nat.reduceMul, Nat.reduceLT, Nat.reduceLeDiff, Nat.reduceMod, Nat.reduceDiv, Int.reduceToNat, Int.reduceLT, Int.reduceLE, Bool.not_true, Bool.not_false, reduceIte, Int.reduceEq, Int.reduceBEq, Int.reduceBNe, Int.reduceGT, Int.reduceGE, Int.reduceNeg, Int.reduceAdd, Int.reduceSub, Nat.reduceBEq, decide_true, decide_false, undef, beq_self_eq_true, bne_self_eq_false, Bool.and_true, Bool.true_and, Bool.and_false, Bool.false_and, Bool.or_true, Bool.true_or, Bool.or_false, Bool.false_or, List.length_map, g3, hj0, List.getElem?_map, hx, hy, Option.map_some, htx, hty, hwk]
    exact ⟨hkl, _, Sub.gc [0, 1, 2] [10, 1, 2, 3, 7, 8, 9] rfl rfl, St.gc_mk rfl (gk3 L N2 _ rfl) rfl rfl⟩
  have hml : m < numS x := by have := of_decide_eq_true g3; omega
  have hmx := of_decide_eq_true g3
  have hwm : IntKind.i64.wrap (x.1 + (m : Int) + 1) = x.1 + ((m + 1 : Nat) : Int) := by rw [wrap_id (by omega) (by omega)]; omega
  rw [foC_succ]
  generalize foC s.step h r x y m N = N1 at *
  have fD := fun q => FewD (step := s.step) (h := h) (a := x.1 + (m : Int)) (y := y) hr5 fm q
  unfold rwI su5
  simp only [go_sem, Nat.reduceEqDiff, Nat.reduceAdd, Nat.reduceSub, Nat.reduceMul, Nat.reduceLT, Nat.reduceLeDiff, Nat.reduceMod, Nat.reduceDiv, Int.reduceToNat, Int.reduceLT, Int.reduceLE, Bool.not_true, Bool.not_false, reduceIte, Int.reduceEq, Int.reduceBEq, Int.reduceBNe, Int.reduceGT, Int.reduceGE, Int.reduceNeg, Int.reduceAdd, Int.reduceSub, Nat.reduceBEq, decide_true, decide_false, undef, beq_self_eq_true, bne_self_eq_false, Bool.and_true, Bool.true_and, Bool.and_false, Bool.false_and, Bool.or_true, Bool.true_or, Bool.or_false, Bool.false_or, List.length_map, g3, hj0, List.getElem?_map, hx, hy, Option.map_some, htx, hty]
  refine awpL_loopK (numS y) (fun q st => st = { env := [(12, .t (vi (y.1 + (q : Int)))), (1, .t (vi n)), (2, .t (vi t)), (3, .ptr 0 0), (7, .loc 1 L.length), (8, .t (vi j)), (9, .loc 2 (foD s.step h r (x.1 + (m : Int)) y q N1).length), (10, .t (vi k)), (11, .t (vi (x.1 + (m : Int))))], σ := [.cells ((su5 s).map .t), rwI L, rwI (foD s.step h r (x.1 + (m : Int)) y q N1)] })
    ⟨_, Sub.gc [0, 1, 2] [12, 1, 2, 3, 7, 8, 9, 10, 11] rfl rfl, ?_⟩ ?_
  · rw [foD_zero]
    refine St.gc_mk ?_ (gk3 L N1 _ rfl) rfl rfl
    simp only [Int.natCast_zero, Int.add_zero]; rfl
  rintro q st hq rfl
  have fq := fD q
  cases g4 : decide (y.1 + (q : Int) ≤ y.2)
  · have hqe : q = numS y := by have := of_decide_eq_false g4; omega
    rw [hqe] at g4 ⊢
    generalize foD s.step h r (x.1 + (m : Int)) y (numS y) N1 = N2 at *
    unfold rwI su5
    simp only [go_sem, Nat.reduceEqDiff, Nat.reduceAdd, Nat.reduceSub, Nat.reduceMul, Nat.reduceLT, Nat.reduceLeDiff, Nat.reduceMod, Nat.reduceDiv, Int.reduceToNat, Int.reduceLT, Int.reduceLE, Bool.not_true, Bool.not_false, reduceIte, Int.reduceEq, Int.reduceBEq, Int.reduceBNe, Int.reduceGT, Int.reduceGE, Int.reduceNeg, Int.reduceAdd, Int.reduceSub, Nat.reduceBEq, decide_true, decide_false, undef, beq_self_eq_true, bne_self_eq_false, Bool.and_true, Bool.true_and, Bool.and_false, Bool.false_and, Bool.or_true, Bool.true_or, Bool.or_false, Bool.false_or, List.length_map, g4, hj0, List.getElem?_map, hx, hy, Option.map_some, htx, hty, hwm]
    exact ⟨hml, _, Sub.gc [0, 1, 2] [11, 1, 2, 3, 7, 8, 9, 10] rfl rfl, St.gc_mk rfl (gk3 L N2 _ rfl) rfl rfl⟩
  have hql : q < numS y := by have := of_decide_eq_true g4; omega
  have hqx := of_decide_eq_true g4
  have hwq : IntKind.i64.wrap (y.1 + (q : Int) + 1) = y.1 + ((q + 1 : Nat) : Int) := by rw [wrap_id (by omega) (by omega)]; omega
  have q1 := q82 r (x.1 + (m : Int)) (y.1 + (q : Int)) (by omega) (by omega) hr5
  rw [foD_succ]
  generalize foD s.step h r (x.1 + (m : Int)) y q N1 = N2 at *
  have hl2 := fq.len
  unfold rwI su5
  simp only [go_sem, Nat.reduceEqDiff, Nat.reduceAdd, Nat.reduceSub, Nat.reduceMul, Nat.reduceLT, Nat.reduceLeDiff, Nat.reduceMod, Nat.reduceDiv, Int.reduceToNat, Int.reduceLT, Int.reduceLE, Bool.not_true, Bool.not_false, reduceIte, Int.reduceEq, Int.reduceBEq, Int.reduceBNe, Int.reduceGT, Int.reduceGE, Int.reduceNeg, Int.reduceAdd, Int.reduceSub, Nat.reduceBEq, decide_true, decide_false, undef, beq_self_eq_true, bne_self_eq_false, Bool.and_true, Bool.true_and, Bool.and_false, Bool.false_and, Bool.or_true, Bool.true_or, Bool.or_false, Bool.false_or, List.length_map, g4, hj0, hk0, hkk, List.getElem?_map, hx, hy, hr, Option.map_some, htx, hty]
  refine ACallL.quiet1 q1 rfl rfl rfl ?_
  simp only [go_sem, Nat.reduceEqDiff, Nat.reduceAdd, Nat.reduceSub, Nat.reduceMul, Nat.reduceLT, Nat.reduceLeDiff, Nat.reduceMod, Nat.reduceDiv, Int.reduceToNat, Int.reduceLT, Int.reduceLE, Bool.not_true, Bool.not_false, reduceIte, Int.reduceEq, Int.reduceBEq, Int.reduceBNe, Int.reduceGT, Int.reduceGE, Int.reduceNeg, Int.reduceAdd, Int.reduceSub, Nat.reduceBEq, decide_true, decide_false, undef, beq_self_eq_true, bne_self_eq_false, Bool.and_true, Bool.true_and, Bool.and_false, Bool.false_and, Bool.or_true, Bool.true_or, Bool.or_false, Bool.false_or, List.length_map, hk0, hkk]
  refine radd_at (l := N2) (p := 2) (by omega) ?hp ?_
  case hp => rfl
  generalize addI N2 (nxI s.step h r (x.1 + (m : Int)) (y.1 + (q : Int))) = N3 at *
  unfold rwI
  simp only [go_sem, Nat.reduceEqDiff, Nat.reduceAdd, Nat.reduceSub, Nat.reduceMul, Nat.reduceLT, Nat.reduceLeDiff, Nat.reduceMod, Nat.reduceDiv, Int.reduceToNat, Int.reduceLT, Int.reduceLE, Bool.not_true, Bool.not_false, reduceIte, Int.reduceEq, Int.reduceBEq, Int.reduceBNe, Int.reduceGT, Int.reduceGE, Int.reduceNeg, Int.reduceAdd, Int.reduceSub, Nat.reduceBEq, decide_true, decide_false, undef, beq_self_eq_true, bne_self_eq_false, Bool.and_true, Bool.true_and, Bool.and_false, Bool.false_and, Bool.or_true, Bool.true_or, Bool.or_false, Bool.false_or, List.length_map, List.getElem?_map, hr, Option.map_some, hk0, hkk, hwq]
  exact ⟨hql, _, Sub.gc [0, 1, 2] [12, 1, 2, 3, 7, 8, 9, 10, 11] rfl rfl, St.gc_mk rfl (gk3 L N3 _ rfl) rfl rfl⟩
end Go.Proofs.YtmahocdmkpigjaaDoor

/- The document's first hour in which a hut can float; all lists of hours. -/
namespace Go.Proofs.YtmahocdmkpigjaaDoor
open Go Go.Ab

/-! ### Does a hut float in an hour? -/
def seeI (p : Bool × Bool) (b : Bool) : Bool × Bool := (p.1 || b, p.2 || !b)
def ltD (step floor row a : Int) (y : Sp) (k : Nat) (p : Bool × Bool) : Bool × Bool := (List.range k).foldl (fun p (j : Nat) => seeI p (liI step floor row a (y.1 + (j : Int)))) p
def ltC (step floor row : Int) (x y : Sp) (k : Nat) (p : Bool × Bool) : Bool × Bool := (List.range k).foldl (fun p (j : Nat) => ltD step floor row (x.1 + (j : Int)) y (numS y) p) p
def ltB (step floor : Int) (rows : List Int) (x y : Sp) (p : Bool × Bool) : Bool × Bool := rows.foldl (fun p row => ltC step floor row x y (numS x) p) p
theorem ltD_zero {step floor row a : Int} {y : Sp} {p : Bool × Bool} : ltD step floor row a y 0 p = p := rfl
theorem ltC_zero {step floor row : Int} {x y : Sp} {p : Bool × Bool} : ltC step floor row x y 0 p = p := rfl
theorem ltD_succ {step floor row a : Int} {y : Sp} {k : Nat} {p : Bool × Bool} : ltD step floor row a y (k + 1) p = seeI (ltD step floor row a y k p) (liI step floor row a (y.1 + (k : Int))) := by
  unfold ltD; rw [List.range_succ, List.foldl_append]; rfl
theorem ltC_succ {step floor row : Int} {x y : Sp} {k : Nat} {p : Bool × Bool} : ltC step floor row x y (k + 1) p = ltD step floor row (x.1 + (k : Int)) y (numS y) (ltC step floor row x y k p) := by
  unfold ltC; rw [List.range_succ, List.foldl_append]; rfl
theorem ltB_snoc {step floor : Int} {rows : List Int} {r : Int} {x y : Sp} {p : Bool × Bool} : ltB step floor (rows ++ [r]) x y p = ltC step floor r x y (numS x) (ltB step floor rows x y p) := by
  unfold ltB; rw [List.foldl_append]; rfl
theorem seeI_iff (p : Bool × Bool) (b : Bool) : ((seeI p b).1 = true ↔ p.1 = true ∨ b = true) ∧ ((seeI p b).2 = true ↔ p.2 = true ∨ b = false) := by
  unfold seeI; simp
theorem ltD_is {step floor row a : Int} {y : Sp} {p : Bool × Bool} : ∀ k, ((ltD step floor row a y k p).1 = true ↔ p.1 = true ∨ ∃ j : Nat, j < k ∧ liI step floor row a (y.1 + (j : Int)) = true) ∧ ((ltD step floor row a y k p).2 = true ↔ p.2 = true ∨ ∃ j : Nat, j < k ∧ liI step floor row a (y.1 + (j : Int)) = false)
  | 0 => by simp [ltD]
  | k + 1 => by
    obtain ⟨i1, i2⟩ := ltD_is (step := step) (floor := floor) (row := row) (a := a) (y := y) (p := p) k
    rw [ltD_succ, (seeI_iff _ _).1, (seeI_iff _ _).2, i1, i2]
    constructor
    · constructor
      · rintro ((h | ⟨j, hj, e⟩) | e)
        · exact .inl h
        · exact .inr ⟨j, by omega, e⟩
        · exact .inr ⟨k, by omega, e⟩
      · rintro (h | ⟨j, hj, e⟩)
        · exact .inl (.inl h)
        · by_cases c : j = k
          · subst c; exact .inr e
          · exact .inl (.inr ⟨j, by omega, e⟩)
    · constructor
      · rintro ((h | ⟨j, hj, e⟩) | e)
        · exact .inl h
        · exact .inr ⟨j, by omega, e⟩
        · exact .inr ⟨k, by omega, e⟩
      · rintro (h | ⟨j, hj, e⟩)
        · exact .inl (.inl h)
        · by_cases c : j = k
          · subst c; exact .inr e
          · exact .inl (.inr ⟨j, by omega, e⟩)
theorem ltC_is {step floor row : Int} {x y : Sp} {p : Bool × Bool} : ∀ k, ((ltC step floor row x y k p).1 = true ↔ p.1 = true ∨ ∃ i j : Nat, i < k ∧ j < numS y ∧ liI step floor row (x.1 + (i : Int)) (y.1 + (j : Int)) = true) ∧ ((ltC step floor row x y k p).2 = true ↔ p.2 = true ∨ ∃ i j : Nat, i < k ∧ j < numS y ∧ liI step floor row (x.1 + (i : Int)) (y.1 + (j : Int)) = false)
  | 0 => by simp [ltC]
  | k + 1 => by
    obtain ⟨i1, i2⟩ := ltC_is (step := step) (floor := floor) (row := row) (x := x) (y := y) (p := p) k
    rw [ltC_succ, (ltD_is _).1, (ltD_is _).2, i1, i2]
    constructor
    · constructor
      · rintro ((h | ⟨i, j, hi, hj, e⟩) | ⟨j, hj, e⟩)
        · exact .inl h
        · exact .inr ⟨i, j, by omega, hj, e⟩
        · exact .inr ⟨k, j, by omega, hj, e⟩
      · rintro (h | ⟨i, j, hi, hj, e⟩)
        · exact .inl (.inl h)
        · by_cases c : i = k
          · subst c; exact .inr ⟨j, hj, e⟩
          · exact .inl (.inr ⟨i, j, by omega, hj, e⟩)
    · constructor
      · rintro ((h | ⟨i, j, hi, hj, e⟩) | ⟨j, hj, e⟩)
        · exact .inl h
        · exact .inr ⟨i, j, by omega, hj, e⟩
        · exact .inr ⟨k, j, by omega, hj, e⟩
      · rintro (h | ⟨i, j, hi, hj, e⟩)
        · exact .inl (.inl h)
        · by_cases c : i = k
          · subst c; exact .inr ⟨j, hj, e⟩
          · exact .inl (.inr ⟨i, j, by omega, hj, e⟩)
theorem ltB_is {step floor : Int} {x y : Sp} : ∀ {rows : List Int} {p : Bool × Bool}, ((ltB step floor rows x y p).1 = true ↔ p.1 = true ∨ ∃ r ∈ rows, ∃ i j : Nat, i < numS x ∧ j < numS y ∧ liI step floor r (x.1 + (i : Int)) (y.1 + (j : Int)) = true) ∧ ((ltB step floor rows x y p).2 = true ↔ p.2 = true ∨ ∃ r ∈ rows, ∃ i j : Nat, i < numS x ∧ j < numS y ∧ liI step floor r (x.1 + (i : Int)) (y.1 + (j : Int)) = false)
  | [], p => by simp [ltB]
  | r :: rows, p => by
    have ih := ltB_is (step := step) (floor := floor) (x := x) (y := y) (rows := rows) (p := ltC step floor r x y (numS x) p)
    show ((ltB step floor rows x y _).1 = true ↔ _) ∧ ((ltB step floor rows x y _).2 = true ↔ _)
    rw [ih.1, ih.2, (ltC_is _).1, (ltC_is _).2]
    simp only [List.mem_cons, exists_eq_or_imp, or_assoc, and_self]
/-- What the document tells of it is what the tally tells. -/
theorem ltB_tal (s : Su) (h : Hu) (hr : 0 ≤ h.row ∧ h.row < 6) (t : Nat) : ltB s.step h.floor (canR s h t) (s.water.getD t (0, 0)) (s.waves.getD t (0, 0)) (false, false) = ((talS s h t).1, (talS s h t).2) := by
  have key : ∀ b : Bool, (∃ r ∈ canR s h t, ∃ i j : Nat, i < numS (s.water.getD t (0, 0)) ∧ j < numS (s.waves.getD t (0, 0)) ∧ liI s.step h.floor r ((s.water.getD t (0, 0)).1 + (i : Int)) ((s.waves.getD t (0, 0)).1 + (j : Int)) = b) ↔ ∃ j < 8, (logS s h t).testBit j = true ∧ ∃ o ∈ hoursL s t, liftK s.step h.floor o.1 o.2 j = b := fun b => by
    unfold hoursL
    constructor
    · rintro ⟨r, hm, i, j, hi, hj, e⟩
      have h1 := (canR_mem s h hr t r).1 hm
      have h5 := ((FewR (s := s) (h := h) (by omega) t).2 r hm).2
      rw [liI_K h1.1] at e
      exact ⟨(r + 1).toNat, by omega, h1.2, _, hoursP_mem.2 ⟨i, j, hi, hj, rfl⟩, e⟩
    · rintro ⟨k, hk, h2, o, ho, e⟩
      obtain ⟨i, j, hi, hj, rfl⟩ := hoursP_mem.1 ho
      have e2 : ((k : Int) - 1 + 1).toNat = k := by omega
      refine ⟨(k : Int) - 1, (canR_mem s h hr t _).2 ⟨by omega, by rw [e2]; exact h2⟩, i, j, hi, hj, ?_⟩
      rw [liI_K (by omega), e2]
      exact e
  have h1 := ltB_is (step := s.step) (floor := h.floor) (x := s.water.getD t (0, 0)) (y := s.waves.getD t (0, 0)) (rows := canR s h t) (p := (false, false))
  have h2 := foldPT_is s h (hoursL s t) (logS s h t) 8
  simp only [Bool.false_eq_true, false_or, key] at h1
  refine Prod.ext ?_ ?_
  · rw [Bool.eq_iff_iff, h1.1]; exact h2.1.symm
  · rw [Bool.eq_iff_iff, h1.2]; exact h2.2.symm
set_option maxRecDepth 8000 in
set_option maxHeartbeats 8000000 in
theorem rlifted_ok (s : Su) (hs : s.OK) {n : Nat} {h : Hu} (hg : s.huts[n]? = some h) {t : Nat} (ht : t < s.water.length) : ACall Tryd.prog 60 [.t (.agg (su5 s)), .t (vi n), .t (vi t)] [] (res (.ret (.tup [.t (vb (talS s h t).1), .t (vb (talS s h t).2)]))) := by
  refine ACall.walk k60 ?_
  have hh := hs.huts h (List.mem_of_getElem? hg)
  have hrow : 0 ≤ h.row ∧ h.row < 6 := by have := hs.rows; simp only [Hu.OK] at hh; omega
  have hnw := hs.nw
  have hnv := hs.nv
  have qc := rcan_ok s hs hg (t := t) (by omega)
  have q83 := fun (row w v : Int) (hw : 0 ≤ w ∧ w ≤ 30) (hv : 0 ≤ v ∧ v ≤ 10) (hr : row ≤ 5) => rLifts_ok s hs hg (row := row) hw hv hr
  have hFew := FewR (s := s) (h := h) (by omega) t
  have eT := ltB_tal s h hrow t
  have hj0 : ((t : Int) < 0) = False := eq_false (by omega)
  have hx : s.water[t]? = some s.water[t] := List.getElem?_eq_getElem (by omega)
  have hy : s.waves[t]? = some s.waves[t] := List.getElem?_eq_getElem (by omega)
  have nx := hs.water _ (List.getElem_mem (show t < s.water.length by omega))
  have ny := hs.waves _ (List.getElem_mem (show t < s.waves.length by omega))
  rw [List.getD_eq_getElem?_getD, List.getD_eq_getElem?_getD, hx, hy, Option.getD_some, Option.getD_some] at eT
  generalize talS s h t = T0 at *
  generalize s.water[t] = x at *
  generalize s.waves[t] = y at *
  generalize canR s h t = L at *
  have hLl := hFew.len
  have hxs : (x.2 < x.1 + (numS x : Int)) ∧ (x.1 + (numS x : Int) ≤ x.2 + 1) := by unfold numS; unfold Near at nx; omega
  have hys : (y.2 < y.1 + (numS y : Int)) ∧ (y.1 + (numS y : Int) ≤ y.2 + 1) := by unfold numS; unfold Near at ny; omega
  unfold Near at nx ny
  have htx : tSp x = .agg [vi x.1, vi x.2] := rfl
  have hty : tSp y = .agg [vi y.1, vi y.2] := rfl
  unfold c60
  unfold tI at qc
  unfold su5 at qc q83 ⊢
  simp only [go_sem, Nat.reduceEqDiff, Nat.reduceAdd, Nat.reduceSub, Nat.reduceMul, Nat.reduceLT, Nat.reduceLeDiff, Nat.reduceMod, Nat.reduceDiv, Int.reduceToNat, Int.reduceLT, Int.reduceLE, Bool.not_true, Bool.not_false, reduceIte, Int.reduceEq, Int.reduceBEq, Int.reduceBNe, Int.reduceGT, Int.reduceGE, Int.reduceNeg, Int.reduceAdd, Int.reduceSub, Nat.reduceBEq, decide_true, decide_false, undef, beq_self_eq_true, bne_self_eq_false, Bool.and_true, Bool.true_and, Bool.and_false, Bool.false_and, Bool.or_true, Bool.true_or, Bool.or_false, Bool.false_or]
  refine ACallL.fresh1 qc rfl ?_
  simp only [go_sem, Nat.reduceEqDiff, Nat.reduceAdd, Nat.reduceSub, Nat.reduceMul, Nat.reduceLT, Nat.reduceLeDiff, Nat.reduceMod, Nat.reduceDiv, Int.reduceToNat, Int.reduceLT, Int.reduceLE, Bool.not_true, Bool.not_false, reduceIte, Int.reduceEq, Int.reduceBEq, Int.reduceBNe, Int.reduceGT, Int.reduceGE, Int.reduceNeg, Int.reduceAdd, Int.reduceSub, Nat.reduceBEq, decide_true, decide_false, undef, beq_self_eq_true, bne_self_eq_false, Bool.and_true, Bool.true_and, Bool.and_false, Bool.false_and, Bool.or_true, Bool.true_or, Bool.or_false, Bool.false_or]
  refine awpL_loopK L.length (fun k st => st = { env := [(11, .t (vi k)), (1, .t (vi n)), (2, .t (vi t)), (3, .ptr 0 0), (8, .t (vb (ltB s.step h.floor (L.take k) x y (false, false)).1)), (9, .t (vb (ltB s.step h.floor (L.take k) x y (false, false)).2)), (10, .t (tI L))], σ := [.cells ((su5 s).map .t)] })
    ⟨_, Sub.gc [0] [11, 1, 2, 3, 8, 9, 10] rfl rfl, St.gc_mk rfl rfl rfl rfl⟩ ?_
  rintro k st hk rfl
  have hwk : IntKind.i64.wrap ((k : Int) + 1) = ((k + 1 : Nat) : Int) := by rw [wrap_id (by omega) (by omega)]; omega
  cases g2 : decide ((k : Int) < L.length)
  · have hke : k = L.length := by have := of_decide_eq_false g2; omega
    subst hke
    rw [List.take_length, eT]
    unfold tI su5
    simp only [go_sem, Nat.reduceEqDiff, Nat.reduceAdd, Nat.reduceSub, Nat.reduceMul, Nat.reduceLT, Nat.reduceLeDiff, Nat.reduceMod, Nat.reduceDiv, Int.reduceToNat, Int.reduceLT, Int.reduceLE, Bool.not_true, Bool.not_false, reduceIte, Int.reduceEq, Int.reduceBEq, Int.reduceBNe, Int.reduceGT, Int.reduceGE, Int.reduceNeg, Int.reduceAdd, Int.reduceSub, Nat.reduceBEq, decide_true, decide_false, undef, beq_self_eq_true, bne_self_eq_false, Bool.and_true, Bool.true_and, Bool.and_false, Bool.false_and, Bool.or_true, Bool.true_or, Bool.or_false, Bool.false_or, List.length_map, g2]
    exact finL_ret [] ⟨rfl, rfl, rfl, rfl, _, rfl, res_mk rfl⟩
  have hkl : k < L.length := by have := of_decide_eq_true g2; omega
  have hk0 : ((k : Int) < 0) = False := eq_false (by omega)
  have hkk : ((k : Int) < (L.length : Int)) = True := eq_true (by omega)
  have hr : L[k]? = some L[k] := List.getElem?_eq_getElem hkl
  have hr5 := hFew.2 _ (List.getElem_mem hkl)
  have tr : L.take (k + 1) = L.take k ++ [L[k]] := List.take_succ_eq_append_getElem hkl
  rw [tr, ltB_snoc]
  generalize L[k] = r at *
  generalize ltB s.step h.floor (L.take k) x y (false, false) = p at *
  unfold tI su5
  simp only [go_sem, Nat.reduceEqDiff, Nat.reduceAdd, Nat.reduceSub, Nat.reduceMul, Nat.reduceLT, Nat.reduceLeDiff, Nat.reduceMod, Nat.reduceDiv, Int.reduceToNat, Int.reduceLT, Int.reduceLE, Bool.not_true, Bool.not_false, reduceIte, Int.reduceEq, Int.reduceBEq, Int.reduceBNe, Int.reduceGT, Int.reduceGE, Int.reduceNeg, Int.reduceAdd, Int.reduceSub, Nat.reduceBEq, decide_true, decide_false, undef, beq_self_eq_true, bne_self_eq_false, Bool.and_true, Bool.true_and, Bool.and_false, Bool.false_and, Bool.or_true, Bool.true_or, Bool.or_false, Bool.false_or, List.length_map, g2, hj0, List.getElem?_map, hx, hy, Option.map_some, htx, hty]
  refine awpL_loopK (numS x) (fun m st => st = { env := [(12, .t (vi (x.1 + (m : Int)))), (1, .t (vi n)), (2, .t (vi t)), (3, .ptr 0 0), (8, .t (vb (ltC s.step h.floor r x y m p).1)), (9, .t (vb (ltC s.step h.floor r x y m p).2)), (10, .t (tI L)), (11, .t (vi k))], σ := [.cells ((su5 s).map .t)] })
    ⟨_, Sub.gc [0] [12, 1, 2, 3, 8, 9, 10, 11] rfl rfl, ?_⟩ ?_
  · rw [ltC_zero]
    refine St.gc_mk ?_ rfl rfl rfl
    simp only [Int.natCast_zero, Int.add_zero]; rfl
  rintro m st hm rfl
  cases g3 : decide (x.1 + (m : Int) ≤ x.2)
  · have hme : m = numS x := by have := of_decide_eq_false g3; omega
    rw [hme] at g3 ⊢
    generalize ltC s.step h.floor r x y (numS x) p = p2 at *
    unfold tI su5
    simp only [go_sem, Nat.reduceEqDiff, Nat.reduceAdd, Nat.reduceSub, Nat.reduceMul, Nat.reduceLT, Nat.reduceLeDiff, Nat.reduceMod, Nat.reduceDiv, Int.reduceToNat, Int.reduceLT, Int.reduceLE, Bool.not_true, Bool.not_false, reduceIte, Int.reduceEq, Int.reduceBEq, Int.reduceBNe, Int.reduceGT, Int.reduceGE, Int.reduceNeg, Int.reduceAdd, Int.reduceSub, Nat.reduceBEq, decide_true, decide_false, undef, beq_self_eq_true, bne_self_eq_false, Bool.and_true, Bool.true_and, Bool.and_false, Bool.false_and, Bool.or_true, Bool.true_or, Bool.or_false, Bool.false_or, List.length_map, g3, hj0, List.getElem?_map, hx, hy, Option.map_some, htx, hty, hwk]
    exact ⟨hkl, _, Sub.gc [0] [11, 1, 2, 3, 8, 9, 10] rfl rfl, rfl⟩
  have hml : m < numS x := by have := of_decide_eq_true g3; omega
  have hmx := of_decide_eq_true g3
  have hwm : IntKind.i64.wrap (x.1 + (m : Int) + 1) = x.1 + ((m + 1 : Nat) : Int) := by rw [wrap_id (by omega) (by omega)]; omega
  rw [ltC_succ]
  generalize ltC s.step h.floor r x y m p = p1 at *
  unfold tI su5
  simp only [go_sem, Nat.reduceEqDiff, Nat.reduceAdd, Nat.reduceSub, Nat.reduceMul, Nat.reduceLT, Nat.reduceLeDiff, Nat.reduceMod, Nat.reduceDiv, Int.reduceToNat, Int.reduceLT, Int.reduceLE, Bool.not_true, Bool.not_false, reduceIte, Int.reduceEq, Int.reduceBEq, Int.reduceBNe, Int.reduceGT, Int.reduceGE, Int.reduceNeg, Int.reduceAdd, Int.reduceSub, Nat.reduceBEq, decide_true, decide_false, undef, beq_self_eq_true, bne_self_eq_false, Bool.and_true, Bool.true_and, Bool.and_false, Bool.false_and, Bool.or_true, Bool.true_or, Bool.or_false, Bool.false_or, List.length_map, g3, hj0, List.getElem?_map, hx, hy, Option.map_some, htx, hty]
  refine awpL_loopK (numS y) (fun q st => st = { env := [(13, .t (vi (y.1 + (q : Int)))), (1, .t (vi n)), (2, .t (vi t)), (3, .ptr 0 0), (8, .t (vb (ltD s.step h.floor r (x.1 + (m : Int)) y q p1).1)), (9, .t (vb (ltD s.step h.floor r (x.1 + (m : Int)) y q p1).2)), (10, .t (tI L)), (11, .t (vi k)), (12, .t (vi (x.1 + (m : Int))))], σ := [.cells ((su5 s).map .t)] })
    ⟨_, Sub.gc [0] [13, 1, 2, 3, 8, 9, 10, 11, 12] rfl rfl, ?_⟩ ?_
  · rw [ltD_zero]
    refine St.gc_mk ?_ rfl rfl rfl
    simp only [Int.natCast_zero, Int.add_zero]; rfl
  rintro q st hq rfl
  cases g4 : decide (y.1 + (q : Int) ≤ y.2)
  · have hqe : q = numS y := by have := of_decide_eq_false g4; omega
    rw [hqe] at g4 ⊢
    generalize ltD s.step h.floor r (x.1 + (m : Int)) y (numS y) p1 = p2 at *
    unfold tI su5
    simp only [go_sem, Nat.reduceEqDiff, Nat.reduceAdd, Nat.reduceSub, Nat.reduceMul, Nat.reduceLT, Nat.reduceLeDiff, Nat.reduceMod, Nat.reduceDiv, Int.reduceToNat, Int.reduceLT, Int.reduceLE, Bool.not_true, Bool.not_false, reduceIte, Int.reduceEq, Int.reduceBEq, Int.reduceBNe, Int.reduceGT, Int.reduceGE, Int.reduceNeg, Int.reduceAdd, Int.reduceSub, Nat.reduceBEq, decide_true, decide_false, undef, beq_self_eq_true, bne_self_eq_false, Bool.and_true, Bool.true_and, Bool.and_false, Bool.false_and, Bool.or_true, Bool.true_or, Bool.or_false, Bool.false_or, List.length_map, g4, hj0, List.getElem?_map, hx, hy, Option.map_some, htx, hty, hwm]
    exact ⟨hml, _, Sub.gc [0] [12, 1, 2, 3, 8, 9, 10, 11] rfl rfl, rfl⟩
  have hql : q < numS y := by have := of_decide_eq_true g4; omega
  have hqx := of_decide_eq_true g4
  have hwq : IntKind.i64.wrap (y.1 + (q : Int) + 1) = y.1 + ((q + 1 : Nat) : Int) := by rw [wrap_id (by omega) (by omega)]; omega
  have q1 := q83 r (x.1 + (m : Int)) (y.1 + (q : Int)) (by omega) (by omega) hr5.2
  rw [ltD_succ]
  generalize ltD s.step h.floor r (x.1 + (m : Int)) y q p1 = p2 at *
  generalize liI s.step h.floor r (x.1 + (m : Int)) (y.1 + (q : Int)) = b at *
  obtain ⟨p21, p22⟩ := p2
  unfold tI su5
  simp only [go_sem, Nat.reduceEqDiff, Nat.reduceAdd, Nat.reduceSub, Nat.reduceMul, Nat.reduceLT, Nat.reduceLeDiff, Nat.reduceMod, Nat.reduceDiv, Int.reduceToNat, Int.reduceLT, Int.reduceLE, Bool.not_true, Bool.not_false, reduceIte, Int.reduceEq, Int.reduceBEq, Int.reduceBNe, Int.reduceGT, Int.reduceGE, Int.reduceNeg, Int.reduceAdd, Int.reduceSub, Nat.reduceBEq, decide_true, decide_false, undef, beq_self_eq_true, bne_self_eq_false, Bool.and_true, Bool.true_and, Bool.and_false, Bool.false_and, Bool.or_true, Bool.true_or, Bool.or_false, Bool.false_or, List.length_map, g4, hj0, hk0, hkk, List.getElem?_map, hx, hy, hr, Option.map_some, htx, hty]
  refine ACallL.quiet1 q1 rfl rfl rfl ?_
  cases b
  · have e : seeI (p21, p22) false = (p21, true) := by unfold seeI; simp
    rw [e]
    simp only [go_sem, Nat.reduceEqDiff, Nat.reduceAdd, Nat.reduceSub, Nat.reduceMul, Nat.reduceLT, Nat.reduceLeDiff, Nat.reduceMod, Nat.reduceDiv, Int.reduceToNat, Int.reduceLT, Int.reduceLE, Bool.not_true, Bool.not_false, reduceIte, Int.reduceEq, Int.reduceBEq, Int.reduceBNe, Int.reduceGT, Int.reduceGE, Int.reduceNeg, Int.reduceAdd, Int.reduceSub, Nat.reduceBEq, decide_true, decide_false, undef, beq_self_eq_true, bne_self_eq_false, Bool.and_true, Bool.true_and, Bool.and_false, Bool.false_and, Bool.or_true, Bool.true_or, Bool.or_false, Bool.false_or, List.length_map, List.getElem?_map, hr, Option.map_some, hk0, hkk, hwq]
    exact ⟨hql, _, Sub.gc [0] [13, 1, 2, 3, 8, 9, 10, 11, 12] rfl rfl, rfl⟩
  · have e : seeI (p21, p22) true = (true, p22) := by unfold seeI; simp
    rw [e]
    simp only [go_sem, Nat.reduceEqDiff, Nat.reduceAdd, Nat.reduceSub, Nat.reduceMul, Nat.reduceLT, Nat.reduceLeDiff, Nat.reduceMod, Nat.reduceDiv, Int.reduceToNat, Int.reduceLT, Int.reduceLE, Bool.not_true, Bool.not_false, reduceIte, Int.reduceEq, Int.reduceBEq, Int.reduceBNe, Int.reduceGT, Int.reduceGE, Int.reduceNeg, Int.reduceAdd, Int.reduceSub, Nat.reduceBEq, decide_true, decide_false, undef, beq_self_eq_true, bne_self_eq_false, Bool.and_true, Bool.true_and, Bool.and_false, Bool.false_and, Bool.or_true, Bool.true_or, Bool.or_false, Bool.false_or, List.length_map, List.getElem?_map, hr, Option.map_some, hk0, hkk, hwq]
    exact ⟨hql, _, Sub.gc [0] [13, 1, 2, 3, 8, 9, 10, 11, 12] rfl rfl, rfl⟩

/-! ### The first hour in which it can -/
theorem first_is (s : Su) (h : Hu) {i : Nat} (hi : i < s.water.length) (hb : ∀ j < i, (talS s h j).1 = false) (hc : (talS s h i).1 = true) : firstS s h = (i : Int) := by
  have h0 : 0 ≤ firstS s h := by
    by_cases a : firstS s h < 0
    · have := (first_neg s h).1 a i hi
      unfold canB at this
      rw [hc] at this
      cases this
    · omega
  obtain ⟨k, e, hk, c1, c2⟩ := first_at s h h0
  rw [e]
  rcases Nat.lt_trichotomy k i with a | a | a
  · have := hb k a
    unfold canB at c1
    rw [this] at c1
    cases c1
  · rw [a]
  · have := c2 i a
    unfold canB at this
    rw [hc] at this
    cases this
theorem first_no (s : Su) (hs : s.OK) (h : Hu) (hb : ∀ j < s.water.length, (talS s h j).1 = false) : firstS s h = -1 := by
  have := (first_neg s h).2 hb
  have := (first_rng s hs h).1
  omega
set_option maxRecDepth 8000 in
set_option maxHeartbeats 8000000 in
theorem rfirst_ok (s : Su) (hs : s.OK) {n : Nat} {h : Hu} (hg : s.huts[n]? = some h) : ACall Tryd.prog 64 [.t (.agg (su5 s)), .t (vi n)] [] (ret (vi (firstS s h))) := by
  refine ACall.walk k64 ?_
  have hnw := hs.nw
  have qL := fun (t : Nat) (ht : t < s.water.length) => rlifted_ok s hs hg ht
  have hF1 := fun (i : Nat) => first_is s h (i := i)
  have hF2 := first_no s hs h
  generalize firstS s h = F at *
  unfold c64
  unfold su5 at qL ⊢
  simp only [go_sem, Nat.reduceEqDiff, Nat.reduceAdd, Nat.reduceSub, Nat.reduceMul, Nat.reduceLT, Nat.reduceLeDiff, Nat.reduceMod, Nat.reduceDiv, Int.reduceToNat, Int.reduceLT, Int.reduceLE, Bool.not_true, Bool.not_false, reduceIte, Int.reduceEq, Int.reduceBEq, Int.reduceBNe, Int.reduceGT, Int.reduceGE, Int.reduceNeg, Int.reduceAdd, Int.reduceSub, Nat.reduceBEq, decide_true, decide_false, undef, beq_self_eq_true, bne_self_eq_false, Bool.and_true, Bool.true_and, Bool.and_false, Bool.false_and, Bool.or_true, Bool.true_or, Bool.or_false, Bool.false_or]
  refine awpL_loopK s.water.length (fun k st => (∀ j < k, (talS s h j).1 = false) ∧ st = { env := [(5, .t (vi k)), (1, .t (vi n)), (2, .ptr 0 0)], σ := [.cells ((su5 s).map .t)] })
    ⟨_, Sub.gc [0] [5, 1, 2] rfl rfl, by simp, St.gc_mk rfl rfl rfl rfl⟩ ?_
  rintro k st hk ⟨hb, rfl⟩
  have hwk : IntKind.i64.wrap ((k : Int) + 1) = ((k + 1 : Nat) : Int) := by rw [wrap_id (by omega) (by omega)]; omega
  cases g : decide ((k : Int) < s.water.length)
  · have hke : k = s.water.length := by have := of_decide_eq_false g; omega
    rw [hF2 (fun j hj => hb j (by omega))]
    unfold su5
    simp only [go_sem, Nat.reduceEqDiff, Nat.reduceAdd, Nat.reduceSub, Nat.reduceMul, Nat.reduceLT, Nat.reduceLeDiff, Nat.reduceMod, Nat.reduceDiv, Int.reduceToNat, Int.reduceLT, Int.reduceLE, Bool.not_true, Bool.not_false, reduceIte, Int.reduceEq, Int.reduceBEq, Int.reduceBNe, Int.reduceGT, Int.reduceGE, Int.reduceNeg, Int.reduceAdd, Int.reduceSub, Nat.reduceBEq, decide_true, decide_false, undef, beq_self_eq_true, bne_self_eq_false, Bool.and_true, Bool.true_and, Bool.and_false, Bool.false_and, Bool.or_true, Bool.true_or, Bool.or_false, Bool.false_or, List.length_map, g]
    exact finL_ret [] ⟨rfl, rfl, rfl, rfl, _, rfl, res_mk rfl⟩
  have hkl : k < s.water.length := by have := of_decide_eq_true g; omega
  have q1 := qL k hkl
  have hF := hF1 k hkl hb
  have hb2 : (talS s h k).1 = false → ∀ j < k + 1, (talS s h j).1 = false := fun e j hj => by
    by_cases c : j = k
    · rw [c]; exact e
    · exact hb j (by omega)
  generalize (talS s h k).2 = b2 at *
  generalize (talS s h k).1 = b1 at *
  unfold su5
  simp only [go_sem, Nat.reduceEqDiff, Nat.reduceAdd, Nat.reduceSub, Nat.reduceMul, Nat.reduceLT, Nat.reduceLeDiff, Nat.reduceMod, Nat.reduceDiv, Int.reduceToNat, Int.reduceLT, Int.reduceLE, Bool.not_true, Bool.not_false, reduceIte, Int.reduceEq, Int.reduceBEq, Int.reduceBNe, Int.reduceGT, Int.reduceGE, Int.reduceNeg, Int.reduceAdd, Int.reduceSub, Nat.reduceBEq, decide_true, decide_false, undef, beq_self_eq_true, bne_self_eq_false, Bool.and_true, Bool.true_and, Bool.and_false, Bool.false_and, Bool.or_true, Bool.true_or, Bool.or_false, Bool.false_or, List.length_map, g]
  refine ACallL.quiet1 q1 rfl rfl rfl ?_
  cases b1
  · simp only [go_sem, Nat.reduceEqDiff, Nat.reduceAdd, Nat.reduceSub, Nat.reduceMul, Nat.reduceLT, Nat.reduceLeDiff, Nat.reduceMod, Nat.reduceDiv, Int.reduceToNat, Int.reduceLT, Int.reduceLE, Bool.not_true, Bool.not_false, reduceIte, Int.reduceEq, Int.reduceBEq, Int.reduceBNe, Int.reduceGT, Int.reduceGE, Int.reduceNeg, Int.reduceAdd, Int.reduceSub, Nat.reduceBEq, decide_true, decide_false, undef, beq_self_eq_true, bne_self_eq_false, Bool.and_true, Bool.true_and, Bool.and_false, Bool.false_and, Bool.or_true, Bool.true_or, Bool.or_false, Bool.false_or, List.length_map, hwk]
    exact ⟨hkl, _, Sub.gc [0] [5, 1, 2] rfl rfl, hb2 rfl, rfl⟩
  · rw [hF rfl]
    simp only [go_sem, Nat.reduceEqDiff, Nat.reduceAdd, Nat.reduceSub, Nat.reduceMul, Nat.reduceLT, Nat.reduceLeDiff, Nat.reduceMod, Nat.reduceDiv, Int.reduceToNat, Int.reduceLT, Int.reduceLE, Bool.not_true, Bool.not_false, reduceIte, Int.reduceEq, Int.reduceBEq, Int.reduceBNe, Int.reduceGT, Int.reduceGE, Int.reduceNeg, Int.reduceAdd, Int.reduceSub, Nat.reduceBEq, decide_true, decide_false, undef, beq_self_eq_true, bne_self_eq_false, Bool.and_true, Bool.true_and, Bool.and_false, Bool.false_and, Bool.or_true, Bool.true_or, Bool.or_false, Bool.false_or, List.length_map]
    exact finL_ret [] ⟨rfl, rfl, rfl, rfl, _, rfl, res_mk rfl⟩
end Go.Proofs.YtmahocdmkpigjaaDoor
