/- Proved here: laws that the statements need (SuF, SuG, SuH, SuI, SuJ). No conditions but those that each law states. -/
import Derived.Test.YtmahocdmkpigjaaDoorSB

set_option linter.unusedSimpArgs false
set_option linter.unusedVariables false

/- Where a hut can be; in which hours it floats. -/
namespace Go.Proofs.YtmahocdmkpigjaaDoor
open Go Go.Ab

/-- The places in which a hut can be before an hour, as a set. -/
def logS (s : Su) (h : Hu) : Nat → Nat
  | 0 => 2 ^ (h.row.toNat + 1)
  | k + 1 => foldP (stG s h) (hoursL s k) (logS s h k) 0 8
theorem logS_lt (s : Su) (h : Hu) (hr : 0 ≤ h.row ∧ h.row < 6) : ∀ k, logS s h k < 256
  | 0 => by
    have : 2 ^ (h.row.toNat + 1) ≤ 128 := Nat.pow_le_pow_right (n := 2) (by decide) (show h.row.toNat + 1 ≤ 7 by omega)
    show 2 ^ (h.row.toNat + 1) < 256
    omega
  | k + 1 => foldPG_lt s h _ _ 0 (by decide) 8 (by decide)
def lg (s : Su) (h : Hu) (j : Nat) : List Nat := (List.range 9).map fun i => if i ≤ j then logS s h i else 0
theorem lg_len (s : Su) (h : Hu) (j : Nat) : (lg s h j).length = 9 := by simp [lg]
theorem lg_get (s : Su) (h : Hu) {i j : Nat} (hi : i ≤ j) (hj : j < 9) : (lg s h j)[i]? = some (logS s h i) := by
  unfold lg
  rw [List.getElem?_map, List.getElem?_range (by omega), Option.map_some, if_pos hi]
theorem lg_succ (s : Su) (h : Hu) {j : Nat} (hj : j + 1 < 9) : (lg s h j).take (j + 1) ++ logS s h (j + 1) :: (lg s h j).drop (j + 1 + 1) = lg s h (j + 1) := by
  apply List.ext_getElem?
  intro i
  unfold lg
  by_cases h1 : i < j + 1
  · rw [List.getElem?_append_left (by simp; omega), List.getElem?_take, if_pos h1, List.getElem?_map, List.getElem?_map, List.getElem?_range (by omega), Option.map_some, Option.map_some, if_pos (by omega), if_pos (by omega)]
  · have hl : (((List.range 9).map fun i => if i ≤ j then logS s h i else 0).take (j + 1)).length = j + 1 := by simp; omega
    rw [List.getElem?_append_right (by omega), hl]
    by_cases h2 : i = j + 1
    · subst h2
      rw [Nat.sub_self, List.getElem?_cons_zero, List.getElem?_map, List.getElem?_range (by omega), Option.map_some, if_pos (by omega)]
    · rw [show i - (j + 1) = (i - (j + 1 + 1)) + 1 by omega, List.getElem?_cons_succ, List.getElem?_drop, show j + 1 + 1 + (i - (j + 1 + 1)) = i by omega, List.getElem?_map, List.getElem?_map]
      by_cases h3 : i < 9
      · rw [List.getElem?_range h3, Option.map_some, Option.map_some, if_neg (by omega), if_neg (by omega)]
      · rw [List.getElem?_eq_none (l := List.range 9) (by simp; omega)]; rfl
abbrev tLog (s : Su) (h : Hu) (j : Nat) : T := .agg ((lg s h j).map fun p : Nat => vu p)
theorem hoursL_eq {s : Su} {j : Nat} {x y : Sp} (hx : s.water[j]? = some x) (hy : s.waves[j]? = some y) : hoursL s j = hoursP x y := by
  unfold hoursL
  rw [List.getD_eq_getElem?_getD, List.getD_eq_getElem?_getD, hx, hy]
  rfl
abbrev seaCallR (s : Su) (o' : Out) : Out → List AO → Prop := fun o σ' => ∃ a', (o = o' ∧ Memo s a') ∧ σ' = [a']

set_option maxRecDepth 8000 in
set_option maxHeartbeats 8000000 in
theorem follow_ok (s : Su) (hs : s.OK) (h : Hu) (hh : h.OK s.rows) {ks : List (Nat × List Int)} {xs : List T} {clk : Nat} (M : MapOK s ks xs) :
    ACall Tryd.prog 53 [seaE s 0, .t (tHu h)] [.map shN ks xs clk] (seaCallR s (.ret (.t (tLog s h s.water.length)))) := by
  refine ACall.walk k53 ?_
  unfold c53 tHu
  have hnw := hs.nw
  have hnv := hs.nv
  have hrow := hs.rows
  have h79 := at_ok h.row.toNat (by have := hh.2.2.2.2; omega)
  rw [show ((h.row.toNat : Nat) : Int) = h.row by have := hh.2.2.2.2; omega] at h79
  have hll := logS_lt s h ⟨hh.2.2.2.2.1, by have := hh.2.2.2.2.2; omega⟩
  have hl0 : logS s h 0 = 2 ^ (h.row.toNat + 1) := rfl
  rw [← hl0] at h79
  obtain ⟨fh, bh, rh⟩ := h
  simp only [go_sem, Nat.reduceEqDiff, Nat.reduceAdd, Nat.reduceSub, Nat.reduceMul, Nat.reduceLT, Nat.reduceLeDiff, Nat.reduceMod, Nat.reduceDiv, Int.reduceToNat, Int.reduceLT, Int.reduceLE, Bool.not_true, Bool.not_false, reduceIte, Int.reduceEq, Int.reduceBEq, Int.reduceBNe, Int.reduceGT, Int.reduceGE, Int.reduceNeg, Int.reduceAdd, Int.reduceSub, Nat.reduceBEq, decide_true, decide_false, undef, beq_self_eq_true, bne_self_eq_false, Bool.and_true, Bool.true_and, Bool.and_false, Bool.false_and, Bool.or_true, Bool.true_or, Bool.or_false, Bool.false_or]
  refine ACallL.quiet1 h79 rfl rfl rfl ?_
  simp only [go_sem, Nat.reduceEqDiff, Nat.reduceAdd, Nat.reduceSub, Nat.reduceMul, Nat.reduceLT, Nat.reduceLeDiff, Nat.reduceMod, Nat.reduceDiv, Int.reduceToNat, Int.reduceLT, Int.reduceLE, Bool.not_true, Bool.not_false, reduceIte, Int.reduceEq, Int.reduceBEq, Int.reduceBNe, Int.reduceGT, Int.reduceGE, Int.reduceNeg, Int.reduceAdd, Int.reduceSub, Nat.reduceBEq, decide_true, decide_false, undef, beq_self_eq_true, bne_self_eq_false, Bool.and_true, Bool.true_and, Bool.and_false, Bool.false_and, Bool.or_true, Bool.true_or, Bool.or_false, Bool.false_or, List.length_map]
  refine awpL_for (i := 17) (L := 16) s.water.length (fun j s' => ∃ ks xs clk, MapOK s ks xs ∧ s' = { env := [(17, .t (vi j)), (16, .t (vi s.water.length)), (0, seaE s 0), (3, .t (.ptr (tHu ⟨fh, bh, rh⟩) 0)), (4, .ptr 1 0)], σ := [.map shN ks xs clk, .cells (((lg s ⟨fh, bh, rh⟩ j).map fun p : Nat => vu p).map .t)] }) ?_ ⟨_, Sub.gc [0, 2] [17, 16, 0, 3, 4] rfl rfl, ks, xs, clk, M, ?_⟩ ?_ ?_
  · rintro k s' ⟨ks, xs, clk, _, rfl⟩; exact ⟨rfl, rfl⟩
  · rfl
  · rintro j s' hj ⟨ks, xs, clk, M, rfl⟩
    have hwj : IntKind.i64.wrap ((j : Int) + 1) = ((j + 1 : Nat) : Int) := by rw [wrap_id (by omega) (by omega)]; omega
    have hx : s.water[j]? = some s.water[j] := List.getElem?_eq_getElem hj
    have hy : s.waves[j]? = some s.waves[j] := List.getElem?_eq_getElem (by omega)
    have h80 := lookG_ok s hs ⟨fh, bh, rh⟩ (logS s ⟨fh, bh, rh⟩ j) (hll j) j _ _ hx hy 0 (by decide) M (clk := clk)
    have hsu : logS s ⟨fh, bh, rh⟩ (j + 1) = foldP (stG s ⟨fh, bh, rh⟩) (hoursL s j) (logS s ⟨fh, bh, rh⟩ j) 0 8 := rfl
    rw [← hoursL_eq hx hy, ← hsu] at h80
    have hlg := lg_get s ⟨fh, bh, rh⟩ (i := j) (j := j) (by omega) (by omega)
    have hlen := lg_len s ⟨fh, bh, rh⟩ j
    have hss := lg_succ s ⟨fh, bh, rh⟩ (j := j) (by omega)
    have hj9 : (j : Int) < 9 := by omega
    have hj19 : ((j + 1 : Nat) : Int) < 9 := by omega
    have hjl : (j + 1 + 1 ≤ 9) = True := by simp; omega
    generalize lg s ⟨fh, bh, rh⟩ j = O at *
    simp only [go_sem, Nat.reduceEqDiff, Nat.reduceAdd, Nat.reduceSub, Nat.reduceMul, Nat.reduceLT, Nat.reduceLeDiff, Nat.reduceMod, Nat.reduceDiv, Int.reduceToNat, Int.reduceLT, Int.reduceLE, Bool.not_true, Bool.not_false, reduceIte, Int.reduceEq, Int.reduceBEq, Int.reduceBNe, Int.reduceGT, Int.reduceGE, Int.reduceNeg, Int.reduceAdd, Int.reduceSub, Nat.reduceBEq, decide_true, decide_false, undef, beq_self_eq_true, bne_self_eq_false, Bool.and_true, Bool.true_and, Bool.and_false, Bool.false_and, Bool.or_true, Bool.true_or, Bool.or_false, Bool.false_or, undef, tHu, hj9, Nat.mul_one, List.getElem?_map, hlg, Option.map_some, hwj]
    refine lend2 (m := 0) (g := 2) h80 (by decide) rfl rfl rfl rfl rfl ?_
    rintro o a c ⟨rfl, ⟨ks2, xs2, clk2, M2, rfl⟩, rfl⟩
    have hO : List.take (j + 1) (List.map E.t (List.map (fun p : Nat => vu p) O)) ++ [E.t (vu (logS s ⟨fh, bh, rh⟩ (j + 1) : Nat))] ++ List.drop (j + 1 + 1) (List.map E.t (List.map (fun p : Nat => vu p) O)) = (((lg s ⟨fh, bh, rh⟩ (j + 1)).map fun p : Nat => vu p).map .t) := by
      rw [← hss]
      simp [List.map_take, List.map_drop]
    simp only [go_sem, Nat.reduceEqDiff, Nat.reduceAdd, Nat.reduceSub, Nat.reduceMul, Nat.reduceLT, Nat.reduceLeDiff, Nat.reduceMod, Nat.reduceDiv, Int.reduceToNat, Int.reduceLT, Int.reduceLE, Bool.not_true, Bool.not_false, reduceIte, Int.reduceEq, Int.reduceBEq, Int.reduceBNe, Int.reduceGT, Int.reduceGE, Int.reduceNeg, Int.reduceAdd, Int.reduceSub, Nat.reduceBEq, decide_true, decide_false, undef, beq_self_eq_true, bne_self_eq_false, Bool.and_true, Bool.true_and, Bool.and_false, Bool.false_and, Bool.or_true, Bool.true_or, Bool.or_false, Bool.false_or, undef, Out.ren, E.ren, E.rens, AO.ren, hwj, hj9, hj19, Nat.mul_one, List.length_map, hlen, hjl, hO]
    refine ⟨_, Sub.gc [0, 1] [17, 16, 0, 3, 4] rfl rfl, ks2, xs2, clk2, M2, ?_⟩
    exact St.gc_mk rfl (by show [AO.map _ _ _ _, AO.cells ((List.map E.t _).map (E.gc _ _ _))] = _; rw [gc_row]) rfl rfl
  · rintro s' ⟨ks, xs, clk, M, rfl⟩
    have hlen := lg_len s ⟨fh, bh, rh⟩ s.water.length
    have htk : List.take 9 (List.map E.t (List.map (fun p : Nat => vu p) (lg s ⟨fh, bh, rh⟩ s.water.length))) = List.map E.t (List.map (fun p : Nat => vu p) (lg s ⟨fh, bh, rh⟩ s.water.length)) := List.take_of_length_le (by simp [hlen])
    have hdr : List.drop 9 (List.map E.t (List.map (fun p : Nat => vu p) (lg s ⟨fh, bh, rh⟩ s.water.length))) = [] := List.drop_eq_nil_of_le (by simp [hlen])
    simp only [go_sem, Nat.reduceEqDiff, Nat.reduceAdd, Nat.reduceSub, Nat.reduceMul, Nat.reduceLT, Nat.reduceLeDiff, Nat.reduceMod, Nat.reduceDiv, Int.reduceToNat, Int.reduceLT, Int.reduceLE, Bool.not_true, Bool.not_false, reduceIte, Int.reduceEq, Int.reduceBEq, Int.reduceBNe, Int.reduceGT, Int.reduceGE, Int.reduceNeg, Int.reduceAdd, Int.reduceSub, Nat.reduceBEq, decide_true, decide_false, undef, beq_self_eq_true, bne_self_eq_false, Bool.and_true, Bool.true_and, Bool.and_false, Bool.false_and, Bool.or_true, Bool.true_or, Bool.or_false, Bool.false_or, undef, List.length_map, hlen, htk, hdr, allT_t]
    refine finL_ret [0] ⟨rfl, rfl, rfl, rfl, .t (tLog s ⟨fh, bh, rh⟩ s.water.length), ?_, _, ⟨rfl, ks, xs, clk, M, rfl⟩, rfl⟩
    simp only [go_sem, Nat.reduceEqDiff, Nat.reduceAdd, Nat.reduceSub, Nat.reduceMul, Nat.reduceLT, Nat.reduceLeDiff, Nat.reduceMod, Nat.reduceDiv, Int.reduceToNat, Int.reduceLT, Int.reduceLE, Bool.not_true, Bool.not_false, reduceIte, Int.reduceEq, Int.reduceBEq, Int.reduceBNe, Int.reduceGT, Int.reduceGE, Int.reduceNeg, Int.reduceAdd, Int.reduceSub, Nat.reduceBEq, decide_true, decide_false, undef, beq_self_eq_true, bne_self_eq_false, Bool.and_true, Bool.true_and, Bool.and_false, Bool.false_and, Bool.or_true, Bool.true_or, Bool.or_false, Bool.false_or, resV, resEs, lk, List.length_map, hlen, htk, allT_t]
end Go.Proofs.YtmahocdmkpigjaaDoor

/- In which hours a hut floats; the first one. -/
namespace Go.Proofs.YtmahocdmkpigjaaDoor
open Go Go.Ab

def talS (s : Su) (h : Hu) (i : Nat) : Tl := foldP (stT s h) (hoursL s i) (logS s h i) (false, false) 8
def tl (s : Su) (h : Hu) (j : Nat) : List Tl := (List.range s.water.length).map fun i => if i < j then talS s h i else (false, false)
def talsS (s : Su) (h : Hu) : List Tl := (List.range s.water.length).map (talS s h)
theorem tl_len (s : Su) (h : Hu) (j : Nat) : (tl s h j).length = s.water.length := by simp [tl]
theorem tl_get (s : Su) (h : Hu) {j : Nat} (hj : j < s.water.length) : (tl s h j)[j]? = some (false, false) := by
  unfold tl
  rw [List.getElem?_map, List.getElem?_range hj, Option.map_some, if_neg (by omega)]
theorem tl_succ (s : Su) (h : Hu) {j : Nat} (hj : j < s.water.length) : (tl s h j).set j (talS s h j) = tl s h (j + 1) := by
  apply List.ext_getElem?
  intro i
  by_cases e : j = i
  · subst e
    rw [List.getElem?_set_self (by rw [tl_len]; exact hj)]
    unfold tl
    rw [List.getElem?_map, List.getElem?_range hj, Option.map_some, if_pos (by omega)]
  · rw [List.getElem?_set_ne e]
    unfold tl
    rw [List.getElem?_map, List.getElem?_map]
    by_cases hi : i < s.water.length
    · rw [List.getElem?_range hi, Option.map_some, Option.map_some]
      by_cases c : i < j
      · rw [if_pos c, if_pos (by omega)]
      · rw [if_neg c, if_neg (by omega)]
    · rw [List.getElem?_eq_none (l := List.range _) (by simp; omega)]; rfl
theorem tl_end (s : Su) (h : Hu) : tl s h s.water.length = talsS s h := by
  unfold tl talsS
  apply List.map_congr_left
  intro i hi
  rw [if_pos (List.mem_range.1 hi)]
theorem tl_zero (s : Su) (h : Hu) : ((tl s h 0).map tTl).map E.t = List.replicate s.water.length (.t (tTl (false, false))) := by
  unfold tl
  rw [List.map_map, List.map_map, List.eq_replicate_iff]
  refine ⟨by simp, fun b hb => ?_⟩
  obtain ⟨i, _, rfl⟩ := List.mem_map.1 hb
  simp

theorem gc_ptr {kp : List Nat} {σ : List AO} {id n off : Nat} {ts : List T} (h : pos? kp id = none) (ho : σ[id]? = some (.cells (ts.map E.t))) : E.gc kp σ (n + 2) (.ptr id off) = .t (.ptr (.agg ts) off) := by
  rw [E.gc]
  simp only [h, ho, gc_row, allT_t]

set_option maxRecDepth 8000 in
set_option maxHeartbeats 8000000 in
theorem tallies_ok (s : Su) (hs : s.OK) (h : Hu) (hh : h.OK s.rows) {ks : List (Nat × List Int)} {xs : List T} {clk : Nat} (M : MapOK s ks xs) :
    ACall Tryd.prog 59 [seaE s 0, .t (tHu h)] [.map shN ks xs clk] (seaCallR s (.ret (.t (.slice 2 ((talsS s h).map tTl))))) := by
  refine ACall.walk k59 ?_
  unfold c59 tHu
  have hnw := hs.nw
  have hnv := hs.nv
  have hrow := hs.rows
  have h53 := follow_ok s hs h hh M (clk := clk)
  have hll := logS_lt s h ⟨hh.2.2.2.2.1, by have := hh.2.2.2.2.2; omega⟩
  obtain ⟨fh, bh, rh⟩ := h
  have hlen := lg_len s ⟨fh, bh, rh⟩ s.water.length
  have hlg := fun i hi => lg_get s ⟨fh, bh, rh⟩ (i := i) (j := s.water.length) hi (by omega)
  simp only [tLog] at h53
  generalize lg s ⟨fh, bh, rh⟩ s.water.length = O at *
  have hdr : List.drop 9 (List.map E.t (List.map (fun p : Nat => vu p) O)) = [] := List.drop_eq_nil_of_le (by simp [hlen])
  simp only [go_sem, Nat.reduceEqDiff, Nat.reduceAdd, Nat.reduceSub, Nat.reduceMul, Nat.reduceLT, Nat.reduceLeDiff, Nat.reduceMod, Nat.reduceDiv, Int.reduceToNat, Int.reduceLT, Int.reduceLE, Bool.not_true, Bool.not_false, reduceIte, Int.reduceEq, Int.reduceBEq, Int.reduceBNe, Int.reduceGT, Int.reduceGE, Int.reduceNeg, Int.reduceAdd, Int.reduceSub, Nat.reduceBEq, decide_true, decide_false, undef, beq_self_eq_true, bne_self_eq_false, Bool.and_true, Bool.true_and, Bool.and_false, Bool.false_and, Bool.or_true, Bool.true_or, Bool.or_false, Bool.false_or]
  refine lend1 (m := 0) h53 rfl rfl rfl ?_
  rintro o a ⟨rfl, ks2, xs2, clk2, M2, rfl⟩
  simp only [go_sem, Nat.reduceEqDiff, Nat.reduceAdd, Nat.reduceSub, Nat.reduceMul, Nat.reduceLT, Nat.reduceLeDiff, Nat.reduceMod, Nat.reduceDiv, Int.reduceToNat, Int.reduceLT, Int.reduceLE, Bool.not_true, Bool.not_false, reduceIte, Int.reduceEq, Int.reduceBEq, Int.reduceBNe, Int.reduceGT, Int.reduceGE, Int.reduceNeg, Int.reduceAdd, Int.reduceSub, Nat.reduceBEq, decide_true, decide_false, undef, beq_self_eq_true, bne_self_eq_false, Bool.and_true, Bool.true_and, Bool.and_false, Bool.false_and, Bool.or_true, Bool.true_or, Bool.or_false, Bool.false_or, undef, Out.ren, E.ren, E.rens, AO.ren, List.length_map, hlen]
  refine ⟨⟨by omega, by omega, by omega⟩, ?_⟩
  simp only [go_sem, Nat.reduceEqDiff, Nat.reduceAdd, Nat.reduceSub, Nat.reduceMul, Nat.reduceLT, Nat.reduceLeDiff, Nat.reduceMod, Nat.reduceDiv, Int.reduceToNat, Int.reduceLT, Int.reduceLE, Bool.not_true, Bool.not_false, reduceIte, Int.reduceEq, Int.reduceBEq, Int.reduceBNe, Int.reduceGT, Int.reduceGE, Int.reduceNeg, Int.reduceAdd, Int.reduceSub, Nat.reduceBEq, decide_true, decide_false, undef, beq_self_eq_true, bne_self_eq_false, Bool.and_true, Bool.true_and, Bool.and_false, Bool.false_and, Bool.or_true, Bool.true_or, Bool.or_false, Bool.false_or, undef, List.length_replicate, hdr]
  refine awpL_for (i := 20) (L := 19) s.water.length (fun j s' => ∃ ks xs clk, MapOK s ks xs ∧ s' = { env := [(20, .t (vi j)), (19, .t (vi s.water.length)), (0, seaE s 0), (3, .t (.ptr (tHu ⟨fh, bh, rh⟩) 0)), (5, .t (.ptr (.agg (O.map fun p : Nat => vu p)) 0)), (6, .loc 1 s.water.length)], σ := [.map shN ks xs clk, .row 2 (((tl s ⟨fh, bh, rh⟩ j).map tTl).map .t)] }) ?_ ⟨_, Sub.gc [0, 3] [20, 19, 0, 3, 5, 6] rfl rfl, ks2, xs2, clk2, M2, ?_⟩ ?_ ?_
  · rintro k s' ⟨ks, xs, clk, _, rfl⟩; exact ⟨rfl, rfl⟩
  · rw [tl_zero]
    refine St.gc_mk ?_ ?_ rfl rfl
    · simp only [List.map_cons, List.map_nil, lk, Nat.reduceEqDiff, reduceIte, List.append_nil]
      rw [gc_ptr (id := 2) (n := 10) (off := 0) (ts := O.map fun p : Nat => vu p) rfl rfl]
      rfl
    · show [AO.map _ _ _ _, AO.row 2 ((List.replicate _ _).map (E.gc _ _ _))] = _
      rw [List.map_replicate]
      rfl
  · rintro j s' hj ⟨ks, xs, clk, M, rfl⟩
    have hwj : IntKind.i64.wrap ((j : Int) + 1) = ((j + 1 : Nat) : Int) := by rw [wrap_id (by omega) (by omega)]; omega
    have hx : s.water[j]? = some s.water[j] := List.getElem?_eq_getElem hj
    have hy : s.waves[j]? = some s.waves[j] := List.getElem?_eq_getElem (by omega)
    have h80 := lookT_ok s hs ⟨fh, bh, rh⟩ (logS s ⟨fh, bh, rh⟩ j) (hll j) j _ _ hx hy (tl s ⟨fh, bh, rh⟩ j) j _ (tl_get s ⟨fh, bh, rh⟩ hj) M (clk := clk)
    rw [← hoursL_eq hx hy, show foldP (stT s ⟨fh, bh, rh⟩) (hoursL s j) (logS s ⟨fh, bh, rh⟩ j) (false, false) 8 = talS s ⟨fh, bh, rh⟩ j from rfl, tl_succ s _ hj, tl_len] at h80
    have hlen' := tl_len s ⟨fh, bh, rh⟩ j
    have hlen2 := tl_len s ⟨fh, bh, rh⟩ (j + 1)
    have hg := hlg j (by omega)
    have hj9 : (j : Int) < 9 := by omega
    have hjn : (j : Int) < (s.water.length : Int) := by omega
    generalize tl s ⟨fh, bh, rh⟩ j = U at *
    generalize tl s ⟨fh, bh, rh⟩ (j + 1) = U2 at *
    simp only [go_sem, Nat.reduceEqDiff, Nat.reduceAdd, Nat.reduceSub, Nat.reduceMul, Nat.reduceLT, Nat.reduceLeDiff, Nat.reduceMod, Nat.reduceDiv, Int.reduceToNat, Int.reduceLT, Int.reduceLE, Bool.not_true, Bool.not_false, reduceIte, Int.reduceEq, Int.reduceBEq, Int.reduceBNe, Int.reduceGT, Int.reduceGE, Int.reduceNeg, Int.reduceAdd, Int.reduceSub, Nat.reduceBEq, decide_true, decide_false, undef, beq_self_eq_true, bne_self_eq_false, Bool.and_true, Bool.true_and, Bool.and_false, Bool.false_and, Bool.or_true, Bool.true_or, Bool.or_false, Bool.false_or, undef, tHu, hj9, Nat.mul_one, List.getElem?_map, hg, Option.map_some, hwj, rowLen, AO.len?, List.length_map, hlen', hjn]
    refine lend2 (m := 0) (g := 1) h80 (by decide) rfl rfl rfl (by simp only [AO.ren, E.rens_map, List.map_map]; rfl) rfl ?_
    rintro o a c ⟨rfl, ⟨ks2, xs2, clk2, M2, rfl⟩, rfl⟩
    have hrn : ∀ ρ : Nat → Nat, E.rens ρ (List.map E.t (List.map tTl U2)) = List.map E.t (List.map tTl U2) := fun ρ => by rw [E.rens_map, List.map_map]; rfl
    simp only [go_sem, Nat.reduceEqDiff, Nat.reduceAdd, Nat.reduceSub, Nat.reduceMul, Nat.reduceLT, Nat.reduceLeDiff, Nat.reduceMod, Nat.reduceDiv, Int.reduceToNat, Int.reduceLT, Int.reduceLE, Bool.not_true, Bool.not_false, reduceIte, Int.reduceEq, Int.reduceBEq, Int.reduceBNe, Int.reduceGT, Int.reduceGE, Int.reduceNeg, Int.reduceAdd, Int.reduceSub, Nat.reduceBEq, decide_true, decide_false, undef, beq_self_eq_true, bne_self_eq_false, Bool.and_true, Bool.true_and, Bool.and_false, Bool.false_and, Bool.or_true, Bool.true_or, Bool.or_false, Bool.false_or, undef, Out.ren, E.ren, E.rens, AO.ren, hwj, hj9, Nat.mul_one, hrn, rowLen, AO.len?, List.length_map, hlen2, hjn]
    refine ⟨_, Sub.gc [0, 1] [20, 19, 0, 3, 5, 6] rfl rfl, ks2, xs2, clk2, M2, ?_⟩
    exact St.gc_mk rfl (by show [AO.map _ _ _ _, AO.row 2 ((List.map E.t _).map (E.gc _ _ _))] = _; rw [gc_row]) rfl rfl
  · rintro s' ⟨ks, xs, clk, M, rfl⟩
    rw [tl_end]
    have hl : (talsS s ⟨fh, bh, rh⟩).length = s.water.length := by simp [talsS]
    simp only [go_sem, Nat.reduceEqDiff, Nat.reduceAdd, Nat.reduceSub, Nat.reduceMul, Nat.reduceLT, Nat.reduceLeDiff, Nat.reduceMod, Nat.reduceDiv, Int.reduceToNat, Int.reduceLT, Int.reduceLE, Bool.not_true, Bool.not_false, reduceIte, Int.reduceEq, Int.reduceBEq, Int.reduceBNe, Int.reduceGT, Int.reduceGE, Int.reduceNeg, Int.reduceAdd, Int.reduceSub, Nat.reduceBEq, decide_true, decide_false, undef, beq_self_eq_true, bne_self_eq_false, Bool.and_true, Bool.true_and, Bool.and_false, Bool.false_and, Bool.or_true, Bool.true_or, Bool.or_false, Bool.false_or, undef]
    refine finL_ret [0] ⟨rfl, rfl, rfl, rfl, _, rfl, _, ⟨congrArg Out.ret (gc_loc (n := 10) (xs := (talsS s ⟨fh, bh, rh⟩).map tTl) rfl rfl (by simp [hl])), ks, xs, clk, M, rfl⟩, rfl⟩

theorem index_ok (ts : List Tl) (hl : ts.length < 9223372036854775808) : ACall Tryd.prog 84 [.t (.slice 2 (ts.map tTl)), .t (.fn (.func 85) [] [])] [] (ret (vi (match ts.findIdx? (·.1) with | some i => (i : Int) | none => -1))) := by
  refine ACall.walk k84 ?_
  unfold c84
  have h85 : ∀ t : Tl, ACall Tryd.prog 85 [.t (tTl t)] [] (ret (vb t.1)) := fun t => by
    refine ACall.walk k85 ?_
    unfold c85 tTl
    simp only [go_sem, Nat.reduceEqDiff, Nat.reduceAdd, Nat.reduceSub, Nat.reduceMul, Nat.reduceLT, Nat.reduceLeDiff, Nat.reduceMod, Nat.reduceDiv, Int.reduceToNat, Int.reduceLT, Int.reduceLE, Bool.not_true, Bool.not_false, reduceIte, Int.reduceEq, Int.reduceBEq, Int.reduceBNe, Int.reduceGT, Int.reduceGE, Int.reduceNeg, Int.reduceAdd, Int.reduceSub, Nat.reduceBEq, decide_true, decide_false, undef, beq_self_eq_true, bne_self_eq_false, Bool.and_true, Bool.true_and, Bool.and_false, Bool.false_and, Bool.or_true, Bool.true_or, Bool.or_false, Bool.false_or]
    exact finL_ret [] ⟨rfl, rfl, rfl, rfl, _, rfl, res_mk rfl⟩
  simp only [go_sem, Nat.reduceEqDiff, Nat.reduceAdd, Nat.reduceSub, Nat.reduceMul, Nat.reduceLT, Nat.reduceLeDiff, Nat.reduceMod, Nat.reduceDiv, Int.reduceToNat, Int.reduceLT, Int.reduceLE, Bool.not_true, Bool.not_false, reduceIte, Int.reduceEq, Int.reduceBEq, Int.reduceBNe, Int.reduceGT, Int.reduceGE, Int.reduceNeg, Int.reduceAdd, Int.reduceSub, Nat.reduceBEq, decide_true, decide_false, undef, beq_self_eq_true, bne_self_eq_false, Bool.and_true, Bool.true_and, Bool.and_false, Bool.false_and, Bool.or_true, Bool.true_or, Bool.or_false, Bool.false_or, List.length_map]
  refine awpL_for (i := 8) (L := 7) ts.length (fun j s => (∀ i < j, ∀ t, ts[i]? = some t → t.1 = false) ∧ s = { env := [(8, .t (vi j)), (7, .t (vi ts.length)), (0, .t (.slice 2 (ts.map tTl))), (1, .t (.fn (.func 85) [] []))], σ := [] }) ?_ ⟨_, Sub.gc [] [8, 7, 0, 1] rfl rfl, by simp, rfl⟩ ?_ ?_
  · rintro k s ⟨_, rfl⟩; exact ⟨rfl, rfl⟩
  · rintro j s hj ⟨hb, rfl⟩
    have hw : IntKind.i64.wrap ((j : Int) + 1) = ((j + 1 : Nat) : Int) := by rw [wrap_id (by omega) (by omega)]; omega
    have hg : ts[j]? = some ts[j] := List.getElem?_eq_getElem hj
    have h85 := h85 ts[j]
    generalize ht : ts[j] = t at *
    obtain ⟨y, n⟩ := t
    simp only [tTl] at h85
    simp only [go_sem, Nat.reduceEqDiff, Nat.reduceAdd, Nat.reduceSub, Nat.reduceMul, Nat.reduceLT, Nat.reduceLeDiff, Nat.reduceMod, Nat.reduceDiv, Int.reduceToNat, Int.reduceLT, Int.reduceLE, Bool.not_true, Bool.not_false, reduceIte, Int.reduceEq, Int.reduceBEq, Int.reduceBNe, Int.reduceGT, Int.reduceGE, Int.reduceNeg, Int.reduceAdd, Int.reduceSub, Nat.reduceBEq, decide_true, decide_false, undef, beq_self_eq_true, bne_self_eq_false, Bool.and_true, Bool.true_and, Bool.and_false, Bool.false_and, Bool.or_true, Bool.true_or, Bool.or_false, Bool.false_or, undef, List.length_map, List.getElem?_map, hg, Option.map_some, tTl]
    refine ACallL.quiet1 h85 rfl rfl rfl ?_
    cases y
    · simp only [go_sem, Nat.reduceEqDiff, Nat.reduceAdd, Nat.reduceSub, Nat.reduceMul, Nat.reduceLT, Nat.reduceLeDiff, Nat.reduceMod, Nat.reduceDiv, Int.reduceToNat, Int.reduceLT, Int.reduceLE, Bool.not_true, Bool.not_false, reduceIte, Int.reduceEq, Int.reduceBEq, Int.reduceBNe, Int.reduceGT, Int.reduceGE, Int.reduceNeg, Int.reduceAdd, Int.reduceSub, Nat.reduceBEq, decide_true, decide_false, undef, beq_self_eq_true, bne_self_eq_false, Bool.and_true, Bool.true_and, Bool.and_false, Bool.false_and, Bool.or_true, Bool.true_or, Bool.or_false, Bool.false_or, undef, hw]
      refine ⟨_, Sub.gc [] [8, 7, 0, 1] rfl rfl, fun i hi t h => ?_, rfl⟩
      by_cases c : i < j
      · exact hb i c t h
      · have : i = j := by omega
        subst this
        rw [hg] at h
        cases h
        rfl
    · simp only [go_sem, Nat.reduceEqDiff, Nat.reduceAdd, Nat.reduceSub, Nat.reduceMul, Nat.reduceLT, Nat.reduceLeDiff, Nat.reduceMod, Nat.reduceDiv, Int.reduceToNat, Int.reduceLT, Int.reduceLE, Bool.not_true, Bool.not_false, reduceIte, Int.reduceEq, Int.reduceBEq, Int.reduceBNe, Int.reduceGT, Int.reduceGE, Int.reduceNeg, Int.reduceAdd, Int.reduceSub, Nat.reduceBEq, decide_true, decide_false, undef, beq_self_eq_true, bne_self_eq_false, Bool.and_true, Bool.true_and, Bool.and_false, Bool.false_and, Bool.or_true, Bool.true_or, Bool.or_false, Bool.false_or, undef]
      have : ts.findIdx? (·.1) = some j := by
        rw [List.findIdx?_eq_some_iff_getElem]
        refine ⟨hj, by rw [ht], fun i hi => ?_⟩
        have := hb i hi _ (List.getElem?_eq_getElem (by omega))
        rw [this]; simp
      exact finL_ret [] ⟨rfl, rfl, rfl, rfl, _, rfl, res_mk (by rw [this]; rfl)⟩
  · rintro s ⟨hb, rfl⟩
    have : ts.findIdx? (·.1) = none := by
      rw [List.findIdx?_eq_none_iff]
      intro t ht
      obtain ⟨i, hi⟩ := List.getElem?_of_mem ht
      rw [hb i (List.getElem?_eq_some_iff.1 hi).1 t hi]
    simp only [go_sem, Nat.reduceEqDiff, Nat.reduceAdd, Nat.reduceSub, Nat.reduceMul, Nat.reduceLT, Nat.reduceLeDiff, Nat.reduceMod, Nat.reduceDiv, Int.reduceToNat, Int.reduceLT, Int.reduceLE, Bool.not_true, Bool.not_false, reduceIte, Int.reduceEq, Int.reduceBEq, Int.reduceBNe, Int.reduceGT, Int.reduceGE, Int.reduceNeg, Int.reduceAdd, Int.reduceSub, Nat.reduceBEq, decide_true, decide_false, undef, beq_self_eq_true, bne_self_eq_false, Bool.and_true, Bool.true_and, Bool.and_false, Bool.false_and, Bool.or_true, Bool.true_or, Bool.or_false, Bool.false_or, undef]
    exact finL_ret [] ⟨rfl, rfl, rfl, rfl, _, rfl, res_mk (by rw [this]; rfl)⟩

/-- The first hour in which a hut can float; -1: none. -/
def firstS (s : Su) (h : Hu) : Int := match (talsS s h).findIdx? (·.1) with | some i => (i : Int) | none => -1
theorem first_ok (s : Su) (hs : s.OK) (h : Hu) (hh : h.OK s.rows) {ks : List (Nat × List Int)} {xs : List T} {clk : Nat} (M : MapOK s ks xs) :
    ACall Tryd.prog 62 [seaE s 0, .t (tHu h)] [.map shN ks xs clk] (seaCallR s (.ret (.t (vi (firstS s h))))) := by
  refine ACall.walk k62 ?_
  unfold c62
  have h59 := tallies_ok s hs h hh M (clk := clk)
  have hl : (talsS s h).length = s.water.length := by simp [talsS]
  have hnw := hs.nw
  have h84 := index_ok (talsS s h) (by omega)
  obtain ⟨fh, bh, rh⟩ := h
  simp only [tHu] at h59 ⊢
  simp only [go_sem, Nat.reduceEqDiff, Nat.reduceAdd, Nat.reduceSub, Nat.reduceMul, Nat.reduceLT, Nat.reduceLeDiff, Nat.reduceMod, Nat.reduceDiv, Int.reduceToNat, Int.reduceLT, Int.reduceLE, Bool.not_true, Bool.not_false, reduceIte, Int.reduceEq, Int.reduceBEq, Int.reduceBNe, Int.reduceGT, Int.reduceGE, Int.reduceNeg, Int.reduceAdd, Int.reduceSub, Nat.reduceBEq, decide_true, decide_false, undef, beq_self_eq_true, bne_self_eq_false, Bool.and_true, Bool.true_and, Bool.and_false, Bool.false_and, Bool.or_true, Bool.true_or, Bool.or_false, Bool.false_or]
  refine lend1 (m := 0) h59 rfl rfl rfl ?_
  rintro o a ⟨rfl, ks2, xs2, clk2, M2, rfl⟩
  simp only [go_sem, Nat.reduceEqDiff, Nat.reduceAdd, Nat.reduceSub, Nat.reduceMul, Nat.reduceLT, Nat.reduceLeDiff, Nat.reduceMod, Nat.reduceDiv, Int.reduceToNat, Int.reduceLT, Int.reduceLE, Bool.not_true, Bool.not_false, reduceIte, Int.reduceEq, Int.reduceBEq, Int.reduceBNe, Int.reduceGT, Int.reduceGE, Int.reduceNeg, Int.reduceAdd, Int.reduceSub, Nat.reduceBEq, decide_true, decide_false, undef, beq_self_eq_true, bne_self_eq_false, Bool.and_true, Bool.true_and, Bool.and_false, Bool.false_and, Bool.or_true, Bool.true_or, Bool.or_false, Bool.false_or, undef, Out.ren, E.ren, E.rens, AO.ren]
  refine ACallL.quiet1 h84 rfl rfl rfl ?_
  simp only [go_sem, Nat.reduceEqDiff, Nat.reduceAdd, Nat.reduceSub, Nat.reduceMul, Nat.reduceLT, Nat.reduceLeDiff, Nat.reduceMod, Nat.reduceDiv, Int.reduceToNat, Int.reduceLT, Int.reduceLE, Bool.not_true, Bool.not_false, reduceIte, Int.reduceEq, Int.reduceBEq, Int.reduceBNe, Int.reduceGT, Int.reduceGE, Int.reduceNeg, Int.reduceAdd, Int.reduceSub, Nat.reduceBEq, decide_true, decide_false, undef, beq_self_eq_true, bne_self_eq_false, Bool.and_true, Bool.true_and, Bool.and_false, Bool.false_and, Bool.or_true, Bool.true_or, Bool.or_false, Bool.false_or, undef]
  exact finL_ret [0] ⟨rfl, rfl, rfl, rfl, _, rfl, _, ⟨rfl, ks2, xs2, clk2, M2, rfl⟩, rfl⟩
end Go.Proofs.YtmahocdmkpigjaaDoor

/- A surf is opened. -/
namespace Go.Proofs.YtmahocdmkpigjaaDoor
open Go Go.Ab

def openR (s : Su) (is : Bool) : Out → List AO → Prop := fun o σ' => if s.ok then (if is then o = .ret (seaE s 0) ∧ σ' = [.map shN [] [] 0] else o = .pan (rfs 2) ∧ σ' = []) else o = .pan (rfs 1) ∧ σ' = []
theorem openR_bad {s : Su} (is : Bool) (h : ¬ s.OK) : openR s is (.pan (rfs 1)) [] := by
  have : s.ok = false := by rw [← Bool.not_eq_true, s.ok_iff]; exact h
  simp only [openR, this, Bool.false_eq_true, if_false, and_self]
theorem openR_rng {s : Su} (hok : s.ok = true) : openR s false (.pan (rfs 2)) [] := by
  simp only [openR, hok, if_true, Bool.false_eq_true, if_false, and_self]
theorem openR_ok {s : Su} (hok : s.ok = true) : openR s true (.ret (seaE s 0)) [.map shN [] [] 0] := by
  simp only [openR, hok, if_true, and_self]
def OpMid (s : Su) (is : Bool) (st : St) : Prop := lk st.env 2 = .ptr 0 0 ∧ lk st.env 1 = .t (vb is) ∧ st.σ = [.cells ((su5 s).map .t)] ∧ st.df = [] ∧ st.k = 0
def OpMid5 (s : Su) (is : Bool) (st : St) : Prop := lk st.env 5 = .t (.fn (.func 78) [] []) ∧ OpMid s is st

set_option maxRecDepth 8000 in
set_option maxHeartbeats 8000000 in
theorem open_ok (s : Su) (is : Bool) (hl : Lens s) : ACall Tryd.prog 44 [.t (.agg (su5 s)), .t (vb is)] [] (openR s is) := by
  refine ACall.walk k44 ?_
  unfold c44
  refine awpL_chop 3 (c1 := ?a1) (c2 := ?a2) (fun st => (wI s.rows 1 6 = true ∧ wI s.step 0 4 = true ∧ s.water.length ≤ 8 ∧ s.waves.length = s.water.length ∧ s.huts.length ≤ 5) ∧ OpMid5 s is st) ?hc ?_ ?_
  case hc => simp only [chop]; rfl
  · unfold su5
    have bad : ¬ s.OK → openR s is (.pan (rfs 1)) [] := openR_bad is
    simp only [go_sem, Nat.reduceEqDiff, Nat.reduceAdd, Nat.reduceSub, Nat.reduceMul, Nat.reduceLT, Nat.reduceLeDiff, Nat.reduceMod, Nat.reduceDiv, Int.reduceToNat, Int.reduceLT, Int.reduceLE, Bool.not_true, Bool.not_false, reduceIte, Int.reduceEq, Int.reduceBEq, Int.reduceBNe, Int.reduceGT, Int.reduceGE, Int.reduceNeg, Int.reduceAdd, Int.reduceSub, Nat.reduceBEq, decide_true, decide_false, undef, beq_self_eq_true, bne_self_eq_false, Bool.and_true, Bool.true_and, Bool.and_false, Bool.false_and, Bool.or_true, Bool.true_or, Bool.or_false, Bool.false_or, List.length_map]
    refine ACallL.quiet1 (within_ok _ _ _) rfl rfl rfl ?_
    cases h1 : wI s.rows 1 6
    · simp only [go_sem, Nat.reduceEqDiff, Nat.reduceAdd, Nat.reduceSub, Nat.reduceMul, Nat.reduceLT, Nat.reduceLeDiff, Nat.reduceMod, Nat.reduceDiv, Int.reduceToNat, Int.reduceLT, Int.reduceLE, Bool.not_true, Bool.not_false, reduceIte, Int.reduceEq, Int.reduceBEq, Int.reduceBNe, Int.reduceGT, Int.reduceGE, Int.reduceNeg, Int.reduceAdd, Int.reduceSub, Nat.reduceBEq, decide_true, decide_false, undef, beq_self_eq_true, bne_self_eq_false, Bool.and_true, Bool.true_and, Bool.and_false, Bool.false_and, Bool.or_true, Bool.true_or, Bool.or_false, Bool.false_or, undef, h1]
      refine ACallL.quiet1 (ask_ok false 1) rfl rfl rfl ?_
      simp only [askO, go_sem, Nat.reduceEqDiff, Nat.reduceAdd, Nat.reduceSub, Nat.reduceMul, Nat.reduceLT, Nat.reduceLeDiff, Nat.reduceMod, Nat.reduceDiv, Int.reduceToNat, Int.reduceLT, Int.reduceLE, Bool.not_true, Bool.not_false, reduceIte, Int.reduceEq, Int.reduceBEq, Int.reduceBNe, Int.reduceGT, Int.reduceGE, Int.reduceNeg, Int.reduceAdd, Int.reduceSub, Nat.reduceBEq, decide_true, decide_false, undef, beq_self_eq_true, bne_self_eq_false, Bool.and_true, Bool.true_and, Bool.and_false, Bool.false_and, Bool.or_true, Bool.true_or, Bool.or_false, Bool.false_or, undef]
      exact finL_pan [] ⟨rfl, rfl, rfl, rfl, bad fun k => by have := k.rows; simp [wI] at h1; omega⟩
    simp only [go_sem, Nat.reduceEqDiff, Nat.reduceAdd, Nat.reduceSub, Nat.reduceMul, Nat.reduceLT, Nat.reduceLeDiff, Nat.reduceMod, Nat.reduceDiv, Int.reduceToNat, Int.reduceLT, Int.reduceLE, Bool.not_true, Bool.not_false, reduceIte, Int.reduceEq, Int.reduceBEq, Int.reduceBNe, Int.reduceGT, Int.reduceGE, Int.reduceNeg, Int.reduceAdd, Int.reduceSub, Nat.reduceBEq, decide_true, decide_false, undef, beq_self_eq_true, bne_self_eq_false, Bool.and_true, Bool.true_and, Bool.and_false, Bool.false_and, Bool.or_true, Bool.true_or, Bool.or_false, Bool.false_or, undef, h1]
    refine ACallL.quiet1 (within_ok _ _ _) rfl rfl rfl ?_
    cases h2 : wI s.step 0 4
    · simp only [go_sem, Nat.reduceEqDiff, Nat.reduceAdd, Nat.reduceSub, Nat.reduceMul, Nat.reduceLT, Nat.reduceLeDiff, Nat.reduceMod, Nat.reduceDiv, Int.reduceToNat, Int.reduceLT, Int.reduceLE, Bool.not_true, Bool.not_false, reduceIte, Int.reduceEq, Int.reduceBEq, Int.reduceBNe, Int.reduceGT, Int.reduceGE, Int.reduceNeg, Int.reduceAdd, Int.reduceSub, Nat.reduceBEq, decide_true, decide_false, undef, beq_self_eq_true, bne_self_eq_false, Bool.and_true, Bool.true_and, Bool.and_false, Bool.false_and, Bool.or_true, Bool.true_or, Bool.or_false, Bool.false_or, undef, h2]
      refine ACallL.quiet1 (ask_ok false 1) rfl rfl rfl ?_
      simp only [askO, go_sem, Nat.reduceEqDiff, Nat.reduceAdd, Nat.reduceSub, Nat.reduceMul, Nat.reduceLT, Nat.reduceLeDiff, Nat.reduceMod, Nat.reduceDiv, Int.reduceToNat, Int.reduceLT, Int.reduceLE, Bool.not_true, Bool.not_false, reduceIte, Int.reduceEq, Int.reduceBEq, Int.reduceBNe, Int.reduceGT, Int.reduceGE, Int.reduceNeg, Int.reduceAdd, Int.reduceSub, Nat.reduceBEq, decide_true, decide_false, undef, beq_self_eq_true, bne_self_eq_false, Bool.and_true, Bool.true_and, Bool.and_false, Bool.false_and, Bool.or_true, Bool.true_or, Bool.or_false, Bool.false_or, undef]
      exact finL_pan [] ⟨rfl, rfl, rfl, rfl, bad fun k => by have := k.step; simp [wI] at h2; omega⟩
    simp only [go_sem, Nat.reduceEqDiff, Nat.reduceAdd, Nat.reduceSub, Nat.reduceMul, Nat.reduceLT, Nat.reduceLeDiff, Nat.reduceMod, Nat.reduceDiv, Int.reduceToNat, Int.reduceLT, Int.reduceLE, Bool.not_true, Bool.not_false, reduceIte, Int.reduceEq, Int.reduceBEq, Int.reduceBNe, Int.reduceGT, Int.reduceGE, Int.reduceNeg, Int.reduceAdd, Int.reduceSub, Nat.reduceBEq, decide_true, decide_false, undef, beq_self_eq_true, bne_self_eq_false, Bool.and_true, Bool.true_and, Bool.and_false, Bool.false_and, Bool.or_true, Bool.true_or, Bool.or_false, Bool.false_or, undef, h2, List.length_map]
    cases h3 : decide ((s.water.length : Int) ≤ 8)
    · simp only [go_sem, Nat.reduceEqDiff, Nat.reduceAdd, Nat.reduceSub, Nat.reduceMul, Nat.reduceLT, Nat.reduceLeDiff, Nat.reduceMod, Nat.reduceDiv, Int.reduceToNat, Int.reduceLT, Int.reduceLE, Bool.not_true, Bool.not_false, reduceIte, Int.reduceEq, Int.reduceBEq, Int.reduceBNe, Int.reduceGT, Int.reduceGE, Int.reduceNeg, Int.reduceAdd, Int.reduceSub, Nat.reduceBEq, decide_true, decide_false, undef, beq_self_eq_true, bne_self_eq_false, Bool.and_true, Bool.true_and, Bool.and_false, Bool.false_and, Bool.or_true, Bool.true_or, Bool.or_false, Bool.false_or, undef, h3, List.length_map]
      refine ACallL.quiet1 (ask_ok false 1) rfl rfl rfl ?_
      simp only [askO, go_sem, Nat.reduceEqDiff, Nat.reduceAdd, Nat.reduceSub, Nat.reduceMul, Nat.reduceLT, Nat.reduceLeDiff, Nat.reduceMod, Nat.reduceDiv, Int.reduceToNat, Int.reduceLT, Int.reduceLE, Bool.not_true, Bool.not_false, reduceIte, Int.reduceEq, Int.reduceBEq, Int.reduceBNe, Int.reduceGT, Int.reduceGE, Int.reduceNeg, Int.reduceAdd, Int.reduceSub, Nat.reduceBEq, decide_true, decide_false, undef, beq_self_eq_true, bne_self_eq_false, Bool.and_true, Bool.true_and, Bool.and_false, Bool.false_and, Bool.or_true, Bool.true_or, Bool.or_false, Bool.false_or, undef]
      exact finL_pan [] ⟨rfl, rfl, rfl, rfl, bad fun k => by have := k.nw; have := of_decide_eq_false h3; omega⟩
    simp only [go_sem, Nat.reduceEqDiff, Nat.reduceAdd, Nat.reduceSub, Nat.reduceMul, Nat.reduceLT, Nat.reduceLeDiff, Nat.reduceMod, Nat.reduceDiv, Int.reduceToNat, Int.reduceLT, Int.reduceLE, Bool.not_true, Bool.not_false, reduceIte, Int.reduceEq, Int.reduceBEq, Int.reduceBNe, Int.reduceGT, Int.reduceGE, Int.reduceNeg, Int.reduceAdd, Int.reduceSub, Nat.reduceBEq, decide_true, decide_false, undef, beq_self_eq_true, bne_self_eq_false, Bool.and_true, Bool.true_and, Bool.and_false, Bool.false_and, Bool.or_true, Bool.true_or, Bool.or_false, Bool.false_or, undef, h3, List.length_map]
    cases h4 : ((s.waves.length : Int) == s.water.length)
    · simp only [go_sem, Nat.reduceEqDiff, Nat.reduceAdd, Nat.reduceSub, Nat.reduceMul, Nat.reduceLT, Nat.reduceLeDiff, Nat.reduceMod, Nat.reduceDiv, Int.reduceToNat, Int.reduceLT, Int.reduceLE, Bool.not_true, Bool.not_false, reduceIte, Int.reduceEq, Int.reduceBEq, Int.reduceBNe, Int.reduceGT, Int.reduceGE, Int.reduceNeg, Int.reduceAdd, Int.reduceSub, Nat.reduceBEq, decide_true, decide_false, undef, beq_self_eq_true, bne_self_eq_false, Bool.and_true, Bool.true_and, Bool.and_false, Bool.false_and, Bool.or_true, Bool.true_or, Bool.or_false, Bool.false_or, undef, h4, List.length_map]
      refine ACallL.quiet1 (ask_ok false 1) rfl rfl rfl ?_
      simp only [askO, go_sem, Nat.reduceEqDiff, Nat.reduceAdd, Nat.reduceSub, Nat.reduceMul, Nat.reduceLT, Nat.reduceLeDiff, Nat.reduceMod, Nat.reduceDiv, Int.reduceToNat, Int.reduceLT, Int.reduceLE, Bool.not_true, Bool.not_false, reduceIte, Int.reduceEq, Int.reduceBEq, Int.reduceBNe, Int.reduceGT, Int.reduceGE, Int.reduceNeg, Int.reduceAdd, Int.reduceSub, Nat.reduceBEq, decide_true, decide_false, undef, beq_self_eq_true, bne_self_eq_false, Bool.and_true, Bool.true_and, Bool.and_false, Bool.false_and, Bool.or_true, Bool.true_or, Bool.or_false, Bool.false_or, undef]
      exact finL_pan [] ⟨rfl, rfl, rfl, rfl, bad fun k => by have := k.nv; rw [this] at h4; simp at h4⟩
    simp only [go_sem, Nat.reduceEqDiff, Nat.reduceAdd, Nat.reduceSub, Nat.reduceMul, Nat.reduceLT, Nat.reduceLeDiff, Nat.reduceMod, Nat.reduceDiv, Int.reduceToNat, Int.reduceLT, Int.reduceLE, Bool.not_true, Bool.not_false, reduceIte, Int.reduceEq, Int.reduceBEq, Int.reduceBNe, Int.reduceGT, Int.reduceGE, Int.reduceNeg, Int.reduceAdd, Int.reduceSub, Nat.reduceBEq, decide_true, decide_false, undef, beq_self_eq_true, bne_self_eq_false, Bool.and_true, Bool.true_and, Bool.and_false, Bool.false_and, Bool.or_true, Bool.true_or, Bool.or_false, Bool.false_or, undef, h4, List.length_map]
    refine ACallL.quiet1 (ask_ok _ 1) rfl rfl (by simp only [askO]; split <;> rfl) ?_
    cases h5 : decide ((s.huts.length : Int) ≤ 5)
    · simp only [askO, go_sem, Nat.reduceEqDiff, Nat.reduceAdd, Nat.reduceSub, Nat.reduceMul, Nat.reduceLT, Nat.reduceLeDiff, Nat.reduceMod, Nat.reduceDiv, Int.reduceToNat, Int.reduceLT, Int.reduceLE, Bool.not_true, Bool.not_false, reduceIte, Int.reduceEq, Int.reduceBEq, Int.reduceBNe, Int.reduceGT, Int.reduceGE, Int.reduceNeg, Int.reduceAdd, Int.reduceSub, Nat.reduceBEq, decide_true, decide_false, undef, beq_self_eq_true, bne_self_eq_false, Bool.and_true, Bool.true_and, Bool.and_false, Bool.false_and, Bool.or_true, Bool.true_or, Bool.or_false, Bool.false_or, undef]
      exact finL_pan [] ⟨rfl, rfl, rfl, rfl, bad fun k => by have := k.nh; have := of_decide_eq_false h5; omega⟩
    simp only [askO, go_sem, Nat.reduceEqDiff, Nat.reduceAdd, Nat.reduceSub, Nat.reduceMul, Nat.reduceLT, Nat.reduceLeDiff, Nat.reduceMod, Nat.reduceDiv, Int.reduceToNat, Int.reduceLT, Int.reduceLE, Bool.not_true, Bool.not_false, reduceIte, Int.reduceEq, Int.reduceBEq, Int.reduceBNe, Int.reduceGT, Int.reduceGE, Int.reduceNeg, Int.reduceAdd, Int.reduceSub, Nat.reduceBEq, decide_true, decide_false, undef, beq_self_eq_true, bne_self_eq_false, Bool.and_true, Bool.true_and, Bool.and_false, Bool.false_and, Bool.or_true, Bool.true_or, Bool.or_false, Bool.false_or, undef]
    refine ⟨⟨?_, ?_, ?_⟩, rfl, rfl, rfl, rfl, rfl, rfl⟩
    · have := of_decide_eq_true h3; omega
    · have := eq_of_beq h4; omega
    · have := of_decide_eq_true h5; omega
  rintro ⟨env, σ, df, k⟩ ⟨⟨v1, v2, v3, v4, v5⟩, q5, q2, q1, hσ, hdf, hk⟩
  simp only at q5 q2 q1 hσ hdf hk
  subst hσ hdf hk
  have w1 : 1 ≤ s.rows ∧ s.rows ≤ 6 := by simpa [wI] using v1
  have w2 : 0 ≤ s.step ∧ s.step ≤ 4 := by simpa [wI] using v2
  -- the hours
  refine awpL_chop 1 (c1 := ?b1) (c2 := ?b2) (fun st => ((∀ x ∈ s.water, Near x 30) ∧ ∀ x ∈ s.waves, Near x 10) ∧ OpMid s is st) ?hc2 ?_ ?_
  case hc2 => simp only [chop]; rfl
  · unfold su5
    simp only [go_sem, Nat.reduceEqDiff, Nat.reduceAdd, Nat.reduceSub, Nat.reduceMul, Nat.reduceLT, Nat.reduceLeDiff, Nat.reduceMod, Nat.reduceDiv, Int.reduceToNat, Int.reduceLT, Int.reduceLE, Bool.not_true, Bool.not_false, reduceIte, Int.reduceEq, Int.reduceBEq, Int.reduceBNe, Int.reduceGT, Int.reduceGE, Int.reduceNeg, Int.reduceAdd, Int.reduceSub, Nat.reduceBEq, decide_true, decide_false, undef, beq_self_eq_true, bne_self_eq_false, Bool.and_true, Bool.true_and, Bool.and_false, Bool.false_and, Bool.or_true, Bool.true_or, Bool.or_false, Bool.false_or, q5, q2, q1, List.length_map]
    refine awpL_for (i := 43) (L := 42) s.water.length (fun j st => ((∀ x ∈ s.water.take j, Near x 30) ∧ ∀ x ∈ s.waves.take j, Near x 10) ∧ st = { env := [(43, .t (vi j)), (42, .t (vi s.water.length)), (41, .t (.slice 2 (s.water.map tSp))), (5, .t (.fn (.func 78) [] [])), (2, .ptr 0 0), (1, .t (vb is))], σ := [.cells ((su5 s).map .t)] }) ?_ ⟨_, Sub.gc [0] [43, 42, 41, 5, 2, 1] rfl rfl, ⟨by simp, by simp⟩, ?_⟩ ?_ ?_
    · rintro k st ⟨_, rfl⟩; exact ⟨rfl, rfl⟩
    · exact St.gc_mk (by simp only [List.map_cons, List.map_nil, lk, Nat.reduceEqDiff, reduceIte, q5, q2, q1]; rfl) rfl rfl rfl
    · rintro j st hj ⟨⟨hK1, hK2⟩, rfl⟩
      have hx : s.water[j]? = some s.water[j] := List.getElem?_eq_getElem hj
      have hy : s.waves[j]? = some s.waves[j] := List.getElem?_eq_getElem (by omega)
      have tx : s.water.take (j + 1) = s.water.take j ++ [s.water[j]] := by rw [List.take_add_one, hx]; rfl
      have ty : s.waves.take (j + 1) = s.waves.take j ++ [s.waves[j]] := by rw [List.take_add_one, hy]; rfl
      have mx := List.getElem_mem hj
      have my := List.getElem_mem (show j < s.waves.length by omega)
      have hw : IntKind.i64.wrap ((j : Int) + 1) = ((j + 1 : Nat) : Int) := by rw [wrap_id (by omega) (by omega)]; omega
      generalize s.water[j] = x at *
      generalize s.waves[j] = y at *
      have nx := near_ok x 30 (by decide)
      have ny := near_ok y 10 (by decide)
      have bad1 : nearB x 30 = false → openR s is (.pan (rfs 1)) [] := fun h => openR_bad is fun k => by rw [(nearB_iff x 30).2 (k.water x mx)] at h; cases h
      have bad2 : nearB y 10 = false → openR s is (.pan (rfs 1)) [] := fun h => openR_bad is fun k => by rw [(nearB_iff y 10).2 (k.waves y my)] at h; cases h
      have g1 := (nearB_iff x 30).1
      have g2 := (nearB_iff y 10).1
      obtain ⟨xl, xh⟩ := x
      obtain ⟨yl, yh⟩ := y
      simp only [tSp] at nx ny
      generalize nearB (xl, xh) 30 = b1 at *
      generalize nearB (yl, yh) 10 = b2 at *
      simp only [su5, go_sem, Nat.reduceEqDiff, Nat.reduceAdd, Nat.reduceSub, Nat.reduceMul, Nat.reduceLT, Nat.reduceLeDiff, Nat.reduceMod, Nat.reduceDiv, Int.reduceToNat, Int.reduceLT, Int.reduceLE, Bool.not_true, Bool.not_false, reduceIte, Int.reduceEq, Int.reduceBEq, Int.reduceBNe, Int.reduceGT, Int.reduceGE, Int.reduceNeg, Int.reduceAdd, Int.reduceSub, Nat.reduceBEq, decide_true, decide_false, undef, beq_self_eq_true, bne_self_eq_false, Bool.and_true, Bool.true_and, Bool.and_false, Bool.false_and, Bool.or_true, Bool.true_or, Bool.or_false, Bool.false_or, undef, List.length_map, List.getElem?_map, hx, hy, Option.map_some, tSp]
      refine ACallL.quiet1 nx rfl rfl rfl ?_
      cases b1
      · simp only [go_sem, Nat.reduceEqDiff, Nat.reduceAdd, Nat.reduceSub, Nat.reduceMul, Nat.reduceLT, Nat.reduceLeDiff, Nat.reduceMod, Nat.reduceDiv, Int.reduceToNat, Int.reduceLT, Int.reduceLE, Bool.not_true, Bool.not_false, reduceIte, Int.reduceEq, Int.reduceBEq, Int.reduceBNe, Int.reduceGT, Int.reduceGE, Int.reduceNeg, Int.reduceAdd, Int.reduceSub, Nat.reduceBEq, decide_true, decide_false, undef, beq_self_eq_true, bne_self_eq_false, Bool.and_true, Bool.true_and, Bool.and_false, Bool.false_and, Bool.or_true, Bool.true_or, Bool.or_false, Bool.false_or, undef]
        refine ACallL.quiet1 (ask_ok false 1) rfl rfl rfl ?_
        simp only [askO, go_sem, Nat.reduceEqDiff, Nat.reduceAdd, Nat.reduceSub, Nat.reduceMul, Nat.reduceLT, Nat.reduceLeDiff, Nat.reduceMod, Nat.reduceDiv, Int.reduceToNat, Int.reduceLT, Int.reduceLE, Bool.not_true, Bool.not_false, reduceIte, Int.reduceEq, Int.reduceBEq, Int.reduceBNe, Int.reduceGT, Int.reduceGE, Int.reduceNeg, Int.reduceAdd, Int.reduceSub, Nat.reduceBEq, decide_true, decide_false, undef, beq_self_eq_true, bne_self_eq_false, Bool.and_true, Bool.true_and, Bool.and_false, Bool.false_and, Bool.or_true, Bool.true_or, Bool.or_false, Bool.false_or, undef]
        exact finL_pan [] ⟨rfl, rfl, rfl, rfl, bad1 rfl⟩
      simp only [go_sem, Nat.reduceEqDiff, Nat.reduceAdd, Nat.reduceSub, Nat.reduceMul, Nat.reduceLT, Nat.reduceLeDiff, Nat.reduceMod, Nat.reduceDiv, Int.reduceToNat, Int.reduceLT, Int.reduceLE, Bool.not_true, Bool.not_false, reduceIte, Int.reduceEq, Int.reduceBEq, Int.reduceBNe, Int.reduceGT, Int.reduceGE, Int.reduceNeg, Int.reduceAdd, Int.reduceSub, Nat.reduceBEq, decide_true, decide_false, undef, beq_self_eq_true, bne_self_eq_false, Bool.and_true, Bool.true_and, Bool.and_false, Bool.false_and, Bool.or_true, Bool.true_or, Bool.or_false, Bool.false_or, undef, List.length_map, List.getElem?_map, hx, hy, Option.map_some, tSp]
      refine ACallL.quiet1 ny rfl rfl rfl ?_
      cases b2
      · simp only [go_sem, Nat.reduceEqDiff, Nat.reduceAdd, Nat.reduceSub, Nat.reduceMul, Nat.reduceLT, Nat.reduceLeDiff, Nat.reduceMod, Nat.reduceDiv, Int.reduceToNat, Int.reduceLT, Int.reduceLE, Bool.not_true, Bool.not_false, reduceIte, Int.reduceEq, Int.reduceBEq, Int.reduceBNe, Int.reduceGT, Int.reduceGE, Int.reduceNeg, Int.reduceAdd, Int.reduceSub, Nat.reduceBEq, decide_true, decide_false, undef, beq_self_eq_true, bne_self_eq_false, Bool.and_true, Bool.true_and, Bool.and_false, Bool.false_and, Bool.or_true, Bool.true_or, Bool.or_false, Bool.false_or, undef]
        refine ACallL.quiet1 (ask_ok false 1) rfl rfl rfl ?_
        simp only [askO, go_sem, Nat.reduceEqDiff, Nat.reduceAdd, Nat.reduceSub, Nat.reduceMul, Nat.reduceLT, Nat.reduceLeDiff, Nat.reduceMod, Nat.reduceDiv, Int.reduceToNat, Int.reduceLT, Int.reduceLE, Bool.not_true, Bool.not_false, reduceIte, Int.reduceEq, Int.reduceBEq, Int.reduceBNe, Int.reduceGT, Int.reduceGE, Int.reduceNeg, Int.reduceAdd, Int.reduceSub, Nat.reduceBEq, decide_true, decide_false, undef, beq_self_eq_true, bne_self_eq_false, Bool.and_true, Bool.true_and, Bool.and_false, Bool.false_and, Bool.or_true, Bool.true_or, Bool.or_false, Bool.false_or, undef]
        exact finL_pan [] ⟨rfl, rfl, rfl, rfl, bad2 rfl⟩
      simp only [go_sem, Nat.reduceEqDiff, Nat.reduceAdd, Nat.reduceSub, Nat.reduceMul, Nat.reduceLT, Nat.reduceLeDiff, Nat.reduceMod, Nat.reduceDiv, Int.reduceToNat, Int.reduceLT, Int.reduceLE, Bool.not_true, Bool.not_false, reduceIte, Int.reduceEq, Int.reduceBEq, Int.reduceBNe, Int.reduceGT, Int.reduceGE, Int.reduceNeg, Int.reduceAdd, Int.reduceSub, Nat.reduceBEq, decide_true, decide_false, undef, beq_self_eq_true, bne_self_eq_false, Bool.and_true, Bool.true_and, Bool.and_false, Bool.false_and, Bool.or_true, Bool.true_or, Bool.or_false, Bool.false_or, undef]
      refine ACallL.quiet1 (ask_ok true 1) rfl rfl rfl ?_
      simp only [askO, go_sem, Nat.reduceEqDiff, Nat.reduceAdd, Nat.reduceSub, Nat.reduceMul, Nat.reduceLT, Nat.reduceLeDiff, Nat.reduceMod, Nat.reduceDiv, Int.reduceToNat, Int.reduceLT, Int.reduceLE, Bool.not_true, Bool.not_false, reduceIte, Int.reduceEq, Int.reduceBEq, Int.reduceBNe, Int.reduceGT, Int.reduceGE, Int.reduceNeg, Int.reduceAdd, Int.reduceSub, Nat.reduceBEq, decide_true, decide_false, undef, beq_self_eq_true, bne_self_eq_false, Bool.and_true, Bool.true_and, Bool.and_false, Bool.false_and, Bool.or_true, Bool.true_or, Bool.or_false, Bool.false_or, undef, hw]
      refine ⟨_, Sub.gc [0] [43, 42, 41, 5, 2, 1] rfl rfl, ⟨?_, ?_⟩, rfl⟩
      · rw [tx]; intro z hz
        rcases List.mem_append.1 hz with h | h
        · exact hK1 z h
        · simp at h; subst h; exact g1 rfl
      · rw [ty]; intro z hz
        rcases List.mem_append.1 hz with h | h
        · exact hK2 z h
        · simp at h; subst h; exact g2 rfl
    · rintro st ⟨⟨hK1, hK2⟩, rfl⟩
      rw [List.take_length] at hK1
      rw [← v4, List.take_length] at hK2
      simp only [go_sem, Nat.reduceEqDiff, Nat.reduceAdd, Nat.reduceSub, Nat.reduceMul, Nat.reduceLT, Nat.reduceLeDiff, Nat.reduceMod, Nat.reduceDiv, Int.reduceToNat, Int.reduceLT, Int.reduceLE, Bool.not_true, Bool.not_false, reduceIte, Int.reduceEq, Int.reduceBEq, Int.reduceBNe, Int.reduceGT, Int.reduceGE, Int.reduceNeg, Int.reduceAdd, Int.reduceSub, Nat.reduceBEq, decide_true, decide_false, undef, beq_self_eq_true, bne_self_eq_false, Bool.and_true, Bool.true_and, Bool.and_false, Bool.false_and, Bool.or_true, Bool.true_or, Bool.or_false, Bool.false_or, undef]
      exact ⟨⟨hK1, hK2⟩, rfl, rfl, rfl, rfl, rfl⟩
  rintro ⟨env, σ, df, k⟩ ⟨⟨v6, v7⟩, q2, q1, hσ, hdf, hk⟩
  simp only at q2 q1 hσ hdf hk
  subst hσ hdf hk
  -- the huts
  refine awpL_chop 1 (c1 := ?d1) (c2 := ?d2) (fun st => (∀ h ∈ s.huts, h.OK s.rows) ∧ OpMid s is st) ?hc3 ?_ ?_
  case hc3 => simp only [chop]; rfl
  · unfold su5
    simp only [go_sem, Nat.reduceEqDiff, Nat.reduceAdd, Nat.reduceSub, Nat.reduceMul, Nat.reduceLT, Nat.reduceLeDiff, Nat.reduceMod, Nat.reduceDiv, Int.reduceToNat, Int.reduceLT, Int.reduceLE, Bool.not_true, Bool.not_false, reduceIte, Int.reduceEq, Int.reduceBEq, Int.reduceBNe, Int.reduceGT, Int.reduceGE, Int.reduceNeg, Int.reduceAdd, Int.reduceSub, Nat.reduceBEq, decide_true, decide_false, undef, beq_self_eq_true, bne_self_eq_false, Bool.and_true, Bool.true_and, Bool.and_false, Bool.false_and, Bool.or_true, Bool.true_or, Bool.or_false, Bool.false_or, q2, q1, List.length_map]
    refine awpL_for (i := 65) (L := 64) s.huts.length (fun j st => (∀ h ∈ s.huts.take j, h.OK s.rows) ∧ st = { env := [(65, .t (vi j)), (64, .t (vi s.huts.length)), (63, .t (.slice 3 (s.huts.map tHu))), (2, .ptr 0 0), (1, .t (vb is))], σ := [.cells ((su5 s).map .t)] }) ?_ ⟨_, Sub.gc [0] [65, 64, 63, 2, 1] rfl rfl, by simp, ?_⟩ ?_ ?_
    · rintro k st ⟨_, rfl⟩; exact ⟨rfl, rfl⟩
    · exact St.gc_mk (by simp only [List.map_cons, List.map_nil, lk, Nat.reduceEqDiff, reduceIte, q2, q1]; rfl) rfl rfl rfl
    · rintro j st hj ⟨hK, rfl⟩
      have hx : s.huts[j]? = some s.huts[j] := List.getElem?_eq_getElem hj
      have tx : s.huts.take (j + 1) = s.huts.take j ++ [s.huts[j]] := by rw [List.take_add_one, hx]; rfl
      have mx := List.getElem_mem hj
      have hw : IntKind.i64.wrap ((j : Int) + 1) = ((j + 1 : Nat) : Int) := by rw [wrap_id (by omega) (by omega)]; omega
      have hr : IntKind.i64.wrap (s.rows - 1) = s.rows - 1 := wrap_id (by omega) (by omega)
      generalize s.huts[j] = x at *
      have bad : ¬ x.OK s.rows → openR s is (.pan (rfs 1)) [] := fun h => openR_bad is fun k => h (k.huts x mx)
      obtain ⟨f, b, r⟩ := x
      simp only [su5, go_sem, Nat.reduceEqDiff, Nat.reduceAdd, Nat.reduceSub, Nat.reduceMul, Nat.reduceLT, Nat.reduceLeDiff, Nat.reduceMod, Nat.reduceDiv, Int.reduceToNat, Int.reduceLT, Int.reduceLE, Bool.not_true, Bool.not_false, reduceIte, Int.reduceEq, Int.reduceBEq, Int.reduceBNe, Int.reduceGT, Int.reduceGE, Int.reduceNeg, Int.reduceAdd, Int.reduceSub, Nat.reduceBEq, decide_true, decide_false, undef, beq_self_eq_true, bne_self_eq_false, Bool.and_true, Bool.true_and, Bool.and_false, Bool.false_and, Bool.or_true, Bool.true_or, Bool.or_false, Bool.false_or, undef, List.length_map, List.getElem?_map, hx, Option.map_some, tHu]
      refine ACallL.quiet1 (within_ok _ _ _) rfl rfl rfl ?_
      cases h1 : wI f 0 40
      · simp only [go_sem, Nat.reduceEqDiff, Nat.reduceAdd, Nat.reduceSub, Nat.reduceMul, Nat.reduceLT, Nat.reduceLeDiff, Nat.reduceMod, Nat.reduceDiv, Int.reduceToNat, Int.reduceLT, Int.reduceLE, Bool.not_true, Bool.not_false, reduceIte, Int.reduceEq, Int.reduceBEq, Int.reduceBNe, Int.reduceGT, Int.reduceGE, Int.reduceNeg, Int.reduceAdd, Int.reduceSub, Nat.reduceBEq, decide_true, decide_false, undef, beq_self_eq_true, bne_self_eq_false, Bool.and_true, Bool.true_and, Bool.and_false, Bool.false_and, Bool.or_true, Bool.true_or, Bool.or_false, Bool.false_or, undef, h1]
        refine ACallL.quiet1 (ask_ok false 1) rfl rfl rfl ?_
        simp only [askO, go_sem, Nat.reduceEqDiff, Nat.reduceAdd, Nat.reduceSub, Nat.reduceMul, Nat.reduceLT, Nat.reduceLeDiff, Nat.reduceMod, Nat.reduceDiv, Int.reduceToNat, Int.reduceLT, Int.reduceLE, Bool.not_true, Bool.not_false, reduceIte, Int.reduceEq, Int.reduceBEq, Int.reduceBNe, Int.reduceGT, Int.reduceGE, Int.reduceNeg, Int.reduceAdd, Int.reduceSub, Nat.reduceBEq, decide_true, decide_false, undef, beq_self_eq_true, bne_self_eq_false, Bool.and_true, Bool.true_and, Bool.and_false, Bool.false_and, Bool.or_true, Bool.true_or, Bool.or_false, Bool.false_or, undef]
        exact finL_pan [] ⟨rfl, rfl, rfl, rfl, bad fun k => by simp [Hu.OK] at k; simp [wI] at h1; omega⟩
      simp only [go_sem, Nat.reduceEqDiff, Nat.reduceAdd, Nat.reduceSub, Nat.reduceMul, Nat.reduceLT, Nat.reduceLeDiff, Nat.reduceMod, Nat.reduceDiv, Int.reduceToNat, Int.reduceLT, Int.reduceLE, Bool.not_true, Bool.not_false, reduceIte, Int.reduceEq, Int.reduceBEq, Int.reduceBNe, Int.reduceGT, Int.reduceGE, Int.reduceNeg, Int.reduceAdd, Int.reduceSub, Nat.reduceBEq, decide_true, decide_false, undef, beq_self_eq_true, bne_self_eq_false, Bool.and_true, Bool.true_and, Bool.and_false, Bool.false_and, Bool.or_true, Bool.true_or, Bool.or_false, Bool.false_or, undef, h1]
      refine ACallL.quiet1 (within_ok _ _ _) rfl rfl rfl ?_
      cases h2 : wI b 0 10
      · simp only [go_sem, Nat.reduceEqDiff, Nat.reduceAdd, Nat.reduceSub, Nat.reduceMul, Nat.reduceLT, Nat.reduceLeDiff, Nat.reduceMod, Nat.reduceDiv, Int.reduceToNat, Int.reduceLT, Int.reduceLE, Bool.not_true, Bool.not_false, reduceIte, Int.reduceEq, Int.reduceBEq, Int.reduceBNe, Int.reduceGT, Int.reduceGE, Int.reduceNeg, Int.reduceAdd, Int.reduceSub, Nat.reduceBEq, decide_true, decide_false, undef, beq_self_eq_true, bne_self_eq_false, Bool.and_true, Bool.true_and, Bool.and_false, Bool.false_and, Bool.or_true, Bool.true_or, Bool.or_false, Bool.false_or, undef, h2]
        refine ACallL.quiet1 (ask_ok false 1) rfl rfl rfl ?_
        simp only [askO, go_sem, Nat.reduceEqDiff, Nat.reduceAdd, Nat.reduceSub, Nat.reduceMul, Nat.reduceLT, Nat.reduceLeDiff, Nat.reduceMod, Nat.reduceDiv, Int.reduceToNat, Int.reduceLT, Int.reduceLE, Bool.not_true, Bool.not_false, reduceIte, Int.reduceEq, Int.reduceBEq, Int.reduceBNe, Int.reduceGT, Int.reduceGE, Int.reduceNeg, Int.reduceAdd, Int.reduceSub, Nat.reduceBEq, decide_true, decide_false, undef, beq_self_eq_true, bne_self_eq_false, Bool.and_true, Bool.true_and, Bool.and_false, Bool.false_and, Bool.or_true, Bool.true_or, Bool.or_false, Bool.false_or, undef]
        exact finL_pan [] ⟨rfl, rfl, rfl, rfl, bad fun k => by simp [Hu.OK] at k; simp [wI] at h2; omega⟩
      simp only [go_sem, Nat.reduceEqDiff, Nat.reduceAdd, Nat.reduceSub, Nat.reduceMul, Nat.reduceLT, Nat.reduceLeDiff, Nat.reduceMod, Nat.reduceDiv, Int.reduceToNat, Int.reduceLT, Int.reduceLE, Bool.not_true, Bool.not_false, reduceIte, Int.reduceEq, Int.reduceBEq, Int.reduceBNe, Int.reduceGT, Int.reduceGE, Int.reduceNeg, Int.reduceAdd, Int.reduceSub, Nat.reduceBEq, decide_true, decide_false, undef, beq_self_eq_true, bne_self_eq_false, Bool.and_true, Bool.true_and, Bool.and_false, Bool.false_and, Bool.or_true, Bool.true_or, Bool.or_false, Bool.false_or, undef, h2, hr]
      refine ACallL.quiet1 (within_ok _ _ _) rfl rfl rfl ?_
      simp only [go_sem, Nat.reduceEqDiff, Nat.reduceAdd, Nat.reduceSub, Nat.reduceMul, Nat.reduceLT, Nat.reduceLeDiff, Nat.reduceMod, Nat.reduceDiv, Int.reduceToNat, Int.reduceLT, Int.reduceLE, Bool.not_true, Bool.not_false, reduceIte, Int.reduceEq, Int.reduceBEq, Int.reduceBNe, Int.reduceGT, Int.reduceGE, Int.reduceNeg, Int.reduceAdd, Int.reduceSub, Nat.reduceBEq, decide_true, decide_false, undef, beq_self_eq_true, bne_self_eq_false, Bool.and_true, Bool.true_and, Bool.and_false, Bool.false_and, Bool.or_true, Bool.true_or, Bool.or_false, Bool.false_or, undef]
      refine ACallL.quiet1 (ask_ok _ 1) rfl rfl (by simp only [askO]; split <;> rfl) ?_
      cases h3 : wI r 0 (s.rows - 1)
      · simp only [askO, go_sem, Nat.reduceEqDiff, Nat.reduceAdd, Nat.reduceSub, Nat.reduceMul, Nat.reduceLT, Nat.reduceLeDiff, Nat.reduceMod, Nat.reduceDiv, Int.reduceToNat, Int.reduceLT, Int.reduceLE, Bool.not_true, Bool.not_false, reduceIte, Int.reduceEq, Int.reduceBEq, Int.reduceBNe, Int.reduceGT, Int.reduceGE, Int.reduceNeg, Int.reduceAdd, Int.reduceSub, Nat.reduceBEq, decide_true, decide_false, undef, beq_self_eq_true, bne_self_eq_false, Bool.and_true, Bool.true_and, Bool.and_false, Bool.false_and, Bool.or_true, Bool.true_or, Bool.or_false, Bool.false_or, undef]
        exact finL_pan [] ⟨rfl, rfl, rfl, rfl, bad fun k => by simp [Hu.OK] at k; simp [wI] at h3; omega⟩
      simp only [askO, go_sem, Nat.reduceEqDiff, Nat.reduceAdd, Nat.reduceSub, Nat.reduceMul, Nat.reduceLT, Nat.reduceLeDiff, Nat.reduceMod, Nat.reduceDiv, Int.reduceToNat, Int.reduceLT, Int.reduceLE, Bool.not_true, Bool.not_false, reduceIte, Int.reduceEq, Int.reduceBEq, Int.reduceBNe, Int.reduceGT, Int.reduceGE, Int.reduceNeg, Int.reduceAdd, Int.reduceSub, Nat.reduceBEq, decide_true, decide_false, undef, beq_self_eq_true, bne_self_eq_false, Bool.and_true, Bool.true_and, Bool.and_false, Bool.false_and, Bool.or_true, Bool.true_or, Bool.or_false, Bool.false_or, undef, hw]
      refine ⟨_, Sub.gc [0] [65, 64, 63, 2, 1] rfl rfl, ?_, rfl⟩
      rw [tx]; intro z hz
      rcases List.mem_append.1 hz with h | h
      · exact hK z h
      · simp at h; subst h; simp [wI] at h1 h2 h3; simp [Hu.OK]; omega
    · rintro st ⟨hK, rfl⟩
      rw [List.take_length] at hK
      simp only [go_sem, Nat.reduceEqDiff, Nat.reduceAdd, Nat.reduceSub, Nat.reduceMul, Nat.reduceLT, Nat.reduceLeDiff, Nat.reduceMod, Nat.reduceDiv, Int.reduceToNat, Int.reduceLT, Int.reduceLE, Bool.not_true, Bool.not_false, reduceIte, Int.reduceEq, Int.reduceBEq, Int.reduceBNe, Int.reduceGT, Int.reduceGE, Int.reduceNeg, Int.reduceAdd, Int.reduceSub, Nat.reduceBEq, decide_true, decide_false, undef, beq_self_eq_true, bne_self_eq_false, Bool.and_true, Bool.true_and, Bool.and_false, Bool.false_and, Bool.or_true, Bool.true_or, Bool.or_false, Bool.false_or, undef]
      exact ⟨hK, rfl, rfl, rfl, rfl, rfl⟩
  rintro ⟨env, σ, df, k⟩ ⟨v8, q2, q1, hσ, hdf, hk⟩
  simp only at q2 q1 hσ hdf hk
  subst hσ hdf hk
  have hok : s.ok = true := (s.ok_iff).2 ⟨w1, w2, v3, v4, v5, v6, v7, v8⟩
  unfold su5
  simp only [go_sem, Nat.reduceEqDiff, Nat.reduceAdd, Nat.reduceSub, Nat.reduceMul, Nat.reduceLT, Nat.reduceLeDiff, Nat.reduceMod, Nat.reduceDiv, Int.reduceToNat, Int.reduceLT, Int.reduceLE, Bool.not_true, Bool.not_false, reduceIte, Int.reduceEq, Int.reduceBEq, Int.reduceBNe, Int.reduceGT, Int.reduceGE, Int.reduceNeg, Int.reduceAdd, Int.reduceSub, Nat.reduceBEq, decide_true, decide_false, undef, beq_self_eq_true, bne_self_eq_false, Bool.and_true, Bool.true_and, Bool.and_false, Bool.false_and, Bool.or_true, Bool.true_or, Bool.or_false, Bool.false_or, q2, q1]
  refine ACallL.quiet1 (ask_ok _ 2) rfl rfl (by simp only [askO]; split <;> rfl) ?_
  cases is
  · simp only [askO, go_sem, Nat.reduceEqDiff, Nat.reduceAdd, Nat.reduceSub, Nat.reduceMul, Nat.reduceLT, Nat.reduceLeDiff, Nat.reduceMod, Nat.reduceDiv, Int.reduceToNat, Int.reduceLT, Int.reduceLE, Bool.not_true, Bool.not_false, reduceIte, Int.reduceEq, Int.reduceBEq, Int.reduceBNe, Int.reduceGT, Int.reduceGE, Int.reduceNeg, Int.reduceAdd, Int.reduceSub, Nat.reduceBEq, decide_true, decide_false, undef, beq_self_eq_true, bne_self_eq_false, Bool.and_true, Bool.true_and, Bool.and_false, Bool.false_and, Bool.or_true, Bool.true_or, Bool.or_false, Bool.false_or, undef]
    exact finL_pan [] ⟨rfl, rfl, rfl, rfl, openR_rng hok⟩
  · simp only [askO, go_sem, Nat.reduceEqDiff, Nat.reduceAdd, Nat.reduceSub, Nat.reduceMul, Nat.reduceLT, Nat.reduceLeDiff, Nat.reduceMod, Nat.reduceDiv, Int.reduceToNat, Int.reduceLT, Int.reduceLE, Bool.not_true, Bool.not_false, reduceIte, Int.reduceEq, Int.reduceBEq, Int.reduceBNe, Int.reduceGT, Int.reduceGE, Int.reduceNeg, Int.reduceAdd, Int.reduceSub, Nat.reduceBEq, decide_true, decide_false, undef, beq_self_eq_true, bne_self_eq_false, Bool.and_true, Bool.true_and, Bool.and_false, Bool.false_and, Bool.or_true, Bool.true_or, Bool.or_false, Bool.false_or, undef, q2, q1]
    exact finL_ret [1] ⟨rfl, rfl, rfl, rfl, _, rfl, openR_ok hok⟩
end Go.Proofs.YtmahocdmkpigjaaDoor

/- Package surf: what each function hands back. -/
namespace Go.Proofs.YtmahocdmkpigjaaDoor
open Go Go.Ab

theorem lendB_nil (σ l : List AO) : lendB σ [] l = σ ++ l := by simp [lendB]
/-- A surf is opened, over whatever store. -/
theorem openL (s : Su) (is : Bool) (hl : Lens s) {σ : List AO} {R : Lz (Out → List AO → Prop)} (hbad : s.ok = false → R.get (.pan (rfs 1)) σ) (hrng : s.ok = true → is = false → R.get (.pan (rfs 2)) σ)
    (hgood : s.ok = true → is = true → R.get (.ret (seaE s σ.length)) (σ ++ [.map shN [] [] 0])) : @ACallL Tryd.prog 44 [.t (.agg (su5 s)), .t (vb is)] σ R := by
  refine ACall.mono (ACall.lend [] (open_ok s is hl) (by simp) (by simp) rfl (fun j o ho => by simp at ho) (args := [.t (.agg (su5 s)), .t (vb is)]) (by simp [E.rens, E.ren])) ?_
  rintro o σ1 ⟨o0, σ0, hR, _, rfl, rfl⟩
  rw [lendB_nil]
  unfold openR at hR
  cases hok : s.ok
  · rw [hok] at hR
    obtain ⟨rfl, rfl⟩ := hR
    rw [List.map_nil, List.append_nil]
    exact hbad hok
  · rw [hok, if_pos rfl] at hR
    cases is
    · obtain ⟨rfl, rfl⟩ := hR
      rw [List.map_nil, List.append_nil]
      exact hrng hok rfl
    · rw [if_pos rfl] at hR
      obtain ⟨rfl, rfl⟩ := hR
      exact hgood hok rfl

def spanE (d : Sp) (e : Int) : Out := .ret (.tup [.t (tSp d), .t (vi e)])
def oneE (a e : Int) : Out := .ret (.tup [.t (vi a), .t (vi e)])
def twoE (a b e : Int) : Out := .ret (.tup [.t (vi a), .t (vi b), .t (vi e)])
def rowE (a : Int) (b : Bool) (e : Int) : Out := .ret (.tup [.t (vi a), .t (vb b), .t (vi e)])

/-! ### Depth -/
set_option maxRecDepth 8000 in
set_option maxHeartbeats 4000000 in
theorem Depth_ok (s : Su) (hs : s.OK) (n : Nat) (x : Sp) (hg : s.water[n]? = some x) (r : Nat) (hr : (r : Int) < s.rows) : ACall Tryd.prog 15 [.t (.agg (su5 s)), .t (vi n), .t (vi r)] [] (res (spanE (deepI s.step x.1 r, deepI s.step x.2 r) 0)) := by
  refine ACall.walkD k15 ?_
  unfold c15
  have hn := (List.getElem?_eq_some_iff.1 hg).1
  have hl : Lens s := ⟨by have := hs.nw; omega, by have := hs.nv; have := hs.nw; omega, by have := hs.nh; omega⟩
  have h45 := isHour_ok s hl n
  have hok := (s.ok_iff).2 hs
  have h1 : s.isHour n = true := isHour_iff.2 ⟨by omega, by omega⟩
  have hrow := hs.rows
  have hst := hs.step
  have hrw : IntKind.i64.wrap (s.rows - 1) = s.rows - 1 := wrap_id (by omega) (by omega)
  have h2 : wI r 0 (s.rows - 1) = true := by simp [wI]; omega
  have hb := hs.water _ (List.mem_of_getElem? hg)
  obtain ⟨lo, hi⟩ := x
  have hb' : 0 ≤ lo ∧ lo ≤ hi ∧ hi ≤ 30 ∧ hi - lo ≤ 3 := hb
  have hm := mul_bnd hst (b := (r : Int)) (by omega)
  have d1 := fun e => depth_ok (vi s.rows) (.slice 2 (s.water.map tSp)) (.slice 2 (s.waves.map tSp)) (.slice 3 (s.huts.map tHu)) e s.step lo r (by omega) (by omega)
  have d2 := fun e => depth_ok (vi s.rows) (.slice 2 (s.water.map tSp)) (.slice 2 (s.waves.map tSp)) (.slice 3 (s.huts.map tHu)) e s.step hi r (by omega) (by omega)
  have hop := fun (σ : List AO) (R : Lz (Out → List AO → Prop)) h => openL (σ := σ) (R := R) s true hl (fun h => by rw [hok] at h; cases h) (fun _ h => by cases h) h
  unfold su5 at h45 hop ⊢
  rw [h1] at h45
  simp only [go_sem, Nat.reduceEqDiff, Nat.reduceAdd, Nat.reduceSub, Nat.reduceMul, Nat.reduceLT, Nat.reduceLeDiff, Nat.reduceMod, Nat.reduceDiv, Int.reduceToNat, Int.reduceLT, Int.reduceLE, Bool.not_true, Bool.not_false, reduceIte, Int.reduceEq, Int.reduceBEq, Int.reduceBNe, Int.reduceGT, Int.reduceGE, Int.reduceNeg, Int.reduceAdd, Int.reduceSub, Nat.reduceBEq, decide_true, decide_false, undef, beq_self_eq_true, bne_self_eq_false, Bool.and_true, Bool.true_and, Bool.and_false, Bool.false_and, Bool.or_true, Bool.true_or, Bool.or_false, Bool.false_or]
  refine ACallL.quiet1 h45 rfl rfl rfl ?_
  simp only [go_sem, Nat.reduceEqDiff, Nat.reduceAdd, Nat.reduceSub, Nat.reduceMul, Nat.reduceLT, Nat.reduceLeDiff, Nat.reduceMod, Nat.reduceDiv, Int.reduceToNat, Int.reduceLT, Int.reduceLE, Bool.not_true, Bool.not_false, reduceIte, Int.reduceEq, Int.reduceBEq, Int.reduceBNe, Int.reduceGT, Int.reduceGE, Int.reduceNeg, Int.reduceAdd, Int.reduceSub, Nat.reduceBEq, decide_true, decide_false, undef, beq_self_eq_true, bne_self_eq_false, Bool.and_true, Bool.true_and, Bool.and_false, Bool.false_and, Bool.or_true, Bool.true_or, Bool.or_false, Bool.false_or, undef, hrw]
  refine ACallL.quiet1 (within_ok _ _ _) rfl rfl rfl ?_
  simp only [go_sem, Nat.reduceEqDiff, Nat.reduceAdd, Nat.reduceSub, Nat.reduceMul, Nat.reduceLT, Nat.reduceLeDiff, Nat.reduceMod, Nat.reduceDiv, Int.reduceToNat, Int.reduceLT, Int.reduceLE, Bool.not_true, Bool.not_false, reduceIte, Int.reduceEq, Int.reduceBEq, Int.reduceBNe, Int.reduceGT, Int.reduceGE, Int.reduceNeg, Int.reduceAdd, Int.reduceSub, Nat.reduceBEq, decide_true, decide_false, undef, beq_self_eq_true, bne_self_eq_false, Bool.and_true, Bool.true_and, Bool.and_false, Bool.false_and, Bool.or_true, Bool.true_or, Bool.or_false, Bool.false_or, undef, h2]
  refine hop _ _ fun _ _ => ?_
  simp only [go_sem, Nat.reduceEqDiff, Nat.reduceAdd, Nat.reduceSub, Nat.reduceMul, Nat.reduceLT, Nat.reduceLeDiff, Nat.reduceMod, Nat.reduceDiv, Int.reduceToNat, Int.reduceLT, Int.reduceLE, Bool.not_true, Bool.not_false, reduceIte, Int.reduceEq, Int.reduceBEq, Int.reduceBNe, Int.reduceGT, Int.reduceGE, Int.reduceNeg, Int.reduceAdd, Int.reduceSub, Nat.reduceBEq, decide_true, decide_false, undef, beq_self_eq_true, bne_self_eq_false, Bool.and_true, Bool.true_and, Bool.and_false, Bool.false_and, Bool.or_true, Bool.true_or, Bool.or_false, Bool.false_or, undef, List.getElem?_map, hg, Option.map_some, tSp]
  refine ACallL.quiet1 (d1 _) rfl rfl rfl ?_
  simp only [go_sem, Nat.reduceEqDiff, Nat.reduceAdd, Nat.reduceSub, Nat.reduceMul, Nat.reduceLT, Nat.reduceLeDiff, Nat.reduceMod, Nat.reduceDiv, Int.reduceToNat, Int.reduceLT, Int.reduceLE, Bool.not_true, Bool.not_false, reduceIte, Int.reduceEq, Int.reduceBEq, Int.reduceBNe, Int.reduceGT, Int.reduceGE, Int.reduceNeg, Int.reduceAdd, Int.reduceSub, Nat.reduceBEq, decide_true, decide_false, undef, beq_self_eq_true, bne_self_eq_false, Bool.and_true, Bool.true_and, Bool.and_false, Bool.false_and, Bool.or_true, Bool.true_or, Bool.or_false, Bool.false_or, undef, List.getElem?_map, hg, Option.map_some, tSp]
  refine ACallL.quiet1 (d2 _) rfl rfl rfl ?_
  simp only [go_sem, Nat.reduceEqDiff, Nat.reduceAdd, Nat.reduceSub, Nat.reduceMul, Nat.reduceLT, Nat.reduceLeDiff, Nat.reduceMod, Nat.reduceDiv, Int.reduceToNat, Int.reduceLT, Int.reduceLE, Bool.not_true, Bool.not_false, reduceIte, Int.reduceEq, Int.reduceBEq, Int.reduceBNe, Int.reduceGT, Int.reduceGE, Int.reduceNeg, Int.reduceAdd, Int.reduceSub, Nat.reduceBEq, decide_true, decide_false, undef, beq_self_eq_true, bne_self_eq_false, Bool.and_true, Bool.true_and, Bool.and_false, Bool.false_and, Bool.or_true, Bool.true_or, Bool.or_false, Bool.false_or, undef, List.getElem?_map, hg, Option.map_some, tSp]
  refine finDL_ret rfl rfl (answer_none.mono fun σ' h => ?_)
  subst h
  exact ⟨_, rfl, [], rfl, rfl, res_mk rfl⟩

/-! ### Rows -/
set_option maxRecDepth 8000 in
set_option maxHeartbeats 4000000 in
theorem Rows_ok (s : Su) (hs : s.OK) (n : Nat) (hu : Hu) (hg : s.huts[n]? = some hu) (k : Nat) (hk : k < s.water.length) : ACall Tryd.prog 17 [.t (.agg (su5 s)), .t (vi n), .t (vi k)] [] (res (rowE (logS s hu (k + 1) / 2 : Nat) ((logS s hu (k + 1)).testBit 0) 0)) := by
  refine ACall.walkD k17 ?_
  unfold c17
  have hn := (List.getElem?_eq_some_iff.1 hg).1
  have hnw := hs.nw
  have hl : Lens s := ⟨by omega, by have := hs.nv; omega, by have := hs.nh; omega⟩
  have hok := (s.ok_iff).2 hs
  have h1 : s.isHut n = true := isHut_iff.2 ⟨by omega, by omega⟩
  have h2 : s.isHour k = true := isHour_iff.2 ⟨by omega, by omega⟩
  have h45 := isHour_ok s hl k
  have h52 := isHut_ok s hl n
  rw [h1] at h52
  rw [h2] at h45
  have hh := hs.huts _ (List.mem_of_getElem? hg)
  have hrow := hs.rows
  have h53 := follow_ok s hs hu hh (MapOK.nil s) (clk := 0)
  have hlt := logS_lt s hu ⟨hh.2.2.2.2.1, by have := hh.2.2.2.2.2; omega⟩ (k + 1)
  have hlg := lg_get s hu (i := k + 1) (j := s.water.length) (by omega) (by omega)
  have hw : IntKind.i64.wrap ((k : Int) + 1) = ((k + 1 : Nat) : Int) := by rw [wrap_id (by omega) (by omega)]; omega
  have hop := fun (σ : List AO) (R : Lz (Out → List AO → Prop)) h => openL (σ := σ) (R := R) s true hl (fun h => by rw [hok] at h; cases h) (fun _ h => by cases h) h
  generalize logS s hu (k + 1) = m at *
  obtain ⟨f, b, r⟩ := hu
  have h54 := lost_ok m hlt
  have h55 := rows_ok m hlt
  simp only [tHu] at h53
  unfold su5 at h45 h52 hop ⊢
  simp only [go_sem, Nat.reduceEqDiff, Nat.reduceAdd, Nat.reduceSub, Nat.reduceMul, Nat.reduceLT, Nat.reduceLeDiff, Nat.reduceMod, Nat.reduceDiv, Int.reduceToNat, Int.reduceLT, Int.reduceLE, Bool.not_true, Bool.not_false, reduceIte, Int.reduceEq, Int.reduceBEq, Int.reduceBNe, Int.reduceGT, Int.reduceGE, Int.reduceNeg, Int.reduceAdd, Int.reduceSub, Nat.reduceBEq, decide_true, decide_false, undef, beq_self_eq_true, bne_self_eq_false, Bool.and_true, Bool.true_and, Bool.and_false, Bool.false_and, Bool.or_true, Bool.true_or, Bool.or_false, Bool.false_or, List.getElem?_map, hg, Option.map_some, tHu]
  refine ACallL.quiet1 h52 rfl rfl rfl ?_
  simp only [go_sem, Nat.reduceEqDiff, Nat.reduceAdd, Nat.reduceSub, Nat.reduceMul, Nat.reduceLT, Nat.reduceLeDiff, Nat.reduceMod, Nat.reduceDiv, Int.reduceToNat, Int.reduceLT, Int.reduceLE, Bool.not_true, Bool.not_false, reduceIte, Int.reduceEq, Int.reduceBEq, Int.reduceBNe, Int.reduceGT, Int.reduceGE, Int.reduceNeg, Int.reduceAdd, Int.reduceSub, Nat.reduceBEq, decide_true, decide_false, undef, beq_self_eq_true, bne_self_eq_false, Bool.and_true, Bool.true_and, Bool.and_false, Bool.false_and, Bool.or_true, Bool.true_or, Bool.or_false, Bool.false_or, undef, List.getElem?_map, hg, Option.map_some, tHu]
  refine ACallL.quiet1 h45 rfl rfl rfl ?_
  simp only [go_sem, Nat.reduceEqDiff, Nat.reduceAdd, Nat.reduceSub, Nat.reduceMul, Nat.reduceLT, Nat.reduceLeDiff, Nat.reduceMod, Nat.reduceDiv, Int.reduceToNat, Int.reduceLT, Int.reduceLE, Bool.not_true, Bool.not_false, reduceIte, Int.reduceEq, Int.reduceBEq, Int.reduceBNe, Int.reduceGT, Int.reduceGE, Int.reduceNeg, Int.reduceAdd, Int.reduceSub, Nat.reduceBEq, decide_true, decide_false, undef, beq_self_eq_true, bne_self_eq_false, Bool.and_true, Bool.true_and, Bool.and_false, Bool.false_and, Bool.or_true, Bool.true_or, Bool.or_false, Bool.false_or, undef, List.getElem?_map, hg, Option.map_some, tHu]
  refine hop _ _ fun _ _ => ?_
  simp only [go_sem, Nat.reduceEqDiff, Nat.reduceAdd, Nat.reduceSub, Nat.reduceMul, Nat.reduceLT, Nat.reduceLeDiff, Nat.reduceMod, Nat.reduceDiv, Int.reduceToNat, Int.reduceLT, Int.reduceLE, Bool.not_true, Bool.not_false, reduceIte, Int.reduceEq, Int.reduceBEq, Int.reduceBNe, Int.reduceGT, Int.reduceGE, Int.reduceNeg, Int.reduceAdd, Int.reduceSub, Nat.reduceBEq, decide_true, decide_false, undef, beq_self_eq_true, bne_self_eq_false, Bool.and_true, Bool.true_and, Bool.and_false, Bool.false_and, Bool.or_true, Bool.true_or, Bool.or_false, Bool.false_or, undef, List.getElem?_map, hg, Option.map_some, tHu]
  refine lend1 (m := 2) h53 rfl rfl rfl ?_
  rintro o a ⟨rfl, ks2, xs2, clk2, M2, rfl⟩
  have hk9 : ((k + 1 : Nat) : Int) < 9 := by omega
  simp only [go_sem, Nat.reduceEqDiff, Nat.reduceAdd, Nat.reduceSub, Nat.reduceMul, Nat.reduceLT, Nat.reduceLeDiff, Nat.reduceMod, Nat.reduceDiv, Int.reduceToNat, Int.reduceLT, Int.reduceLE, Bool.not_true, Bool.not_false, reduceIte, Int.reduceEq, Int.reduceBEq, Int.reduceBNe, Int.reduceGT, Int.reduceGE, Int.reduceNeg, Int.reduceAdd, Int.reduceSub, Nat.reduceBEq, decide_true, decide_false, undef, beq_self_eq_true, bne_self_eq_false, Bool.and_true, Bool.true_and, Bool.and_false, Bool.false_and, Bool.or_true, Bool.true_or, Bool.or_false, Bool.false_or, undef, Out.ren, E.ren, E.rens, AO.ren, hw, hk9, Nat.mul_one, List.getElem?_map, hlg, hg, Option.map_some, tHu, List.length_map]
  refine ACallL.quiet1 h55 rfl rfl rfl ?_
  simp only [go_sem, Nat.reduceEqDiff, Nat.reduceAdd, Nat.reduceSub, Nat.reduceMul, Nat.reduceLT, Nat.reduceLeDiff, Nat.reduceMod, Nat.reduceDiv, Int.reduceToNat, Int.reduceLT, Int.reduceLE, Bool.not_true, Bool.not_false, reduceIte, Int.reduceEq, Int.reduceBEq, Int.reduceBNe, Int.reduceGT, Int.reduceGE, Int.reduceNeg, Int.reduceAdd, Int.reduceSub, Nat.reduceBEq, decide_true, decide_false, undef, beq_self_eq_true, bne_self_eq_false, Bool.and_true, Bool.true_and, Bool.and_false, Bool.false_and, Bool.or_true, Bool.true_or, Bool.or_false, Bool.false_or, undef]
  refine ACallL.quiet1 h54 rfl rfl rfl ?_
  simp only [go_sem, Nat.reduceEqDiff, Nat.reduceAdd, Nat.reduceSub, Nat.reduceMul, Nat.reduceLT, Nat.reduceLeDiff, Nat.reduceMod, Nat.reduceDiv, Int.reduceToNat, Int.reduceLT, Int.reduceLE, Bool.not_true, Bool.not_false, reduceIte, Int.reduceEq, Int.reduceBEq, Int.reduceBNe, Int.reduceGT, Int.reduceGE, Int.reduceNeg, Int.reduceAdd, Int.reduceSub, Nat.reduceBEq, decide_true, decide_false, undef, beq_self_eq_true, bne_self_eq_false, Bool.and_true, Bool.true_and, Bool.and_false, Bool.false_and, Bool.or_true, Bool.true_or, Bool.or_false, Bool.false_or, undef]
  refine finDL_ret rfl rfl (answer_none.mono fun σ' h => ?_)
  subst h
  exact ⟨_, rfl, [], rfl, rfl, res_mk rfl⟩
end Go.Proofs.YtmahocdmkpigjaaDoor

/- Package surf: Floats, Lost, Before. -/
namespace Go.Proofs.YtmahocdmkpigjaaDoor
open Go Go.Ab

def maskOf (p : Nat → Bool) : Nat → Nat
  | 0 => 0
  | k + 1 => if p k then maskOf p k ||| 2 ^ k else maskOf p k
theorem maskOf_lt (p : Nat → Bool) : ∀ k, maskOf p k < 2 ^ k
  | 0 => by simp [maskOf]
  | k + 1 => by
    have ih := maskOf_lt p k
    have h2 : 2 ^ (k + 1) = 2 ^ k + 2 ^ k := by rw [Nat.pow_succ]; omega
    simp only [maskOf]
    split
    · exact Nat.or_lt_two_pow (by omega) (by omega)
    · omega
theorem maskOf_bit (p : Nat → Bool) : ∀ k i, (maskOf p k).testBit i = (decide (i < k) && p i)
  | 0, i => by simp [maskOf]
  | k + 1, i => by
    simp only [maskOf]
    have ih := maskOf_bit p k i
    by_cases hi : i = k
    · subst hi
      cases hp : p i with
      | true => simp [ih]
      | false => simp [ih]
    · have e : decide (i < k + 1) = decide (i < k) := decide_eq_decide.2 (by omega)
      have e2 : (2 ^ k).testBit i = false := by rw [Nat.testBit_two_pow]; simp; omega
      split
      · rw [Nat.testBit_or, ih, e2, e]; simp
      · rw [ih, e]

/-- When it can float, and when it surely does. -/
def canB (s : Su) (h : Hu) (i : Nat) : Bool := (talS s h i).1
def sureB (s : Su) (h : Hu) (i : Nat) : Bool := !(talS s h i).2
abbrev canM (s : Su) (h : Hu) : Nat := maskOf (canB s h) s.water.length
abbrev sureM (s : Su) (h : Hu) : Nat := maskOf (sureB s h) s.water.length
theorem tals_get (s : Su) (h : Hu) {j : Nat} (hj : j < s.water.length) : (talsS s h)[j]? = some (talS s h j) := by
  unfold talsS
  rw [List.getElem?_map, List.getElem?_range hj]; rfl

/-- What is known of an opening, with a hut that is there. -/
theorem pre_ok {s : Su} (hs : s.OK) {n : Nat} {hu : Hu} (hg : s.huts[n]? = some hu) : Lens s ∧ s.ok = true ∧ s.isHut n = true ∧ hu.OK s.rows := by
  have hn := (List.getElem?_eq_some_iff.1 hg).1
  have hnw := hs.nw
  exact ⟨⟨by omega, by have := hs.nv; omega, by have := hs.nh; omega⟩, (s.ok_iff).2 hs, isHut_iff.2 ⟨by omega, by omega⟩, hs.huts _ (List.mem_of_getElem? hg)⟩

set_option maxRecDepth 8000 in
set_option maxHeartbeats 4000000 in
theorem Floats_ok (s : Su) (hs : s.OK) (n : Nat) (hu : Hu) (hg : s.huts[n]? = some hu) : ACall Tryd.prog 19 [.t (.agg (su5 s)), .t (vi n)] [] (res (twoE (sureM s hu) (canM s hu) 0)) := by
  refine ACall.walkD k19 ?_
  unfold c19
  obtain ⟨hl, hok, h1, hh⟩ := pre_ok hs hg
  have hnw := hs.nw
  have h52 := isHut_ok s hl n
  rw [h1] at h52
  have h59 := tallies_ok s hs hu hh (MapOK.nil s) (clk := 0)
  have htl : (talsS s hu).length = s.water.length := by simp [talsS]
  have hop := fun (σ : List AO) (R : Lz (Out → List AO → Prop)) h => openL (σ := σ) (R := R) s true hl (fun h => by rw [hok] at h; cases h) (fun _ h => by cases h) h
  have htg := fun j hj => tals_get s hu (j := j) hj
  have m1 : ∀ j, maskOf (canB s hu) (j + 1) = if (talS s hu j).1 then maskOf (canB s hu) j ||| 2 ^ j else maskOf (canB s hu) j := fun _ => rfl
  have m2 : ∀ j, maskOf (sureB s hu) (j + 1) = if !(talS s hu j).2 then maskOf (sureB s hu) j ||| 2 ^ j else maskOf (sureB s hu) j := fun _ => rfl
  have l1 := maskOf_lt (canB s hu)
  have l2 := maskOf_lt (sureB s hu)
  have z1 : maskOf (canB s hu) 0 = 0 := rfl
  have z2 : maskOf (sureB s hu) 0 = 0 := rfl
  unfold canM sureM
  generalize maskOf (canB s hu) = MC at *
  generalize maskOf (sureB s hu) = MS at *
  generalize talsS s hu = ts at *
  generalize talS s hu = tf at *
  obtain ⟨f, b, r⟩ := hu
  simp only [tHu] at h59
  unfold su5 at h52 hop ⊢
  simp only [go_sem, Nat.reduceEqDiff, Nat.reduceAdd, Nat.reduceSub, Nat.reduceMul, Nat.reduceLT, Nat.reduceLeDiff, Nat.reduceMod, Nat.reduceDiv, Int.reduceToNat, Int.reduceLT, Int.reduceLE, Bool.not_true, Bool.not_false, reduceIte, Int.reduceEq, Int.reduceBEq, Int.reduceBNe, Int.reduceGT, Int.reduceGE, Int.reduceNeg, Int.reduceAdd, Int.reduceSub, Nat.reduceBEq, decide_true, decide_false, undef, beq_self_eq_true, bne_self_eq_false, Bool.and_true, Bool.true_and, Bool.and_false, Bool.false_and, Bool.or_true, Bool.true_or, Bool.or_false, Bool.false_or, List.getElem?_map, hg, Option.map_some, tHu]
  refine ACallL.quiet1 h52 rfl rfl rfl ?_
  simp only [go_sem, Nat.reduceEqDiff, Nat.reduceAdd, Nat.reduceSub, Nat.reduceMul, Nat.reduceLT, Nat.reduceLeDiff, Nat.reduceMod, Nat.reduceDiv, Int.reduceToNat, Int.reduceLT, Int.reduceLE, Bool.not_true, Bool.not_false, reduceIte, Int.reduceEq, Int.reduceBEq, Int.reduceBNe, Int.reduceGT, Int.reduceGE, Int.reduceNeg, Int.reduceAdd, Int.reduceSub, Nat.reduceBEq, decide_true, decide_false, undef, beq_self_eq_true, bne_self_eq_false, Bool.and_true, Bool.true_and, Bool.and_false, Bool.false_and, Bool.or_true, Bool.true_or, Bool.or_false, Bool.false_or, undef, List.getElem?_map, hg, Option.map_some, tHu]
  refine hop _ _ fun _ _ => ?_
  simp only [go_sem, Nat.reduceEqDiff, Nat.reduceAdd, Nat.reduceSub, Nat.reduceMul, Nat.reduceLT, Nat.reduceLeDiff, Nat.reduceMod, Nat.reduceDiv, Int.reduceToNat, Int.reduceLT, Int.reduceLE, Bool.not_true, Bool.not_false, reduceIte, Int.reduceEq, Int.reduceBEq, Int.reduceBNe, Int.reduceGT, Int.reduceGE, Int.reduceNeg, Int.reduceAdd, Int.reduceSub, Nat.reduceBEq, decide_true, decide_false, undef, beq_self_eq_true, bne_self_eq_false, Bool.and_true, Bool.true_and, Bool.and_false, Bool.false_and, Bool.or_true, Bool.true_or, Bool.or_false, Bool.false_or, undef, List.getElem?_map, hg, Option.map_some, tHu]
  refine lend1 (m := 2) h59 rfl rfl rfl ?_
  rintro o a ⟨rfl, ks2, xs2, clk2, M2, rfl⟩
  simp only [go_sem, Nat.reduceEqDiff, Nat.reduceAdd, Nat.reduceSub, Nat.reduceMul, Nat.reduceLT, Nat.reduceLeDiff, Nat.reduceMod, Nat.reduceDiv, Int.reduceToNat, Int.reduceLT, Int.reduceLE, Bool.not_true, Bool.not_false, reduceIte, Int.reduceEq, Int.reduceBEq, Int.reduceBNe, Int.reduceGT, Int.reduceGE, Int.reduceNeg, Int.reduceAdd, Int.reduceSub, Nat.reduceBEq, decide_true, decide_false, undef, beq_self_eq_true, bne_self_eq_false, Bool.and_true, Bool.true_and, Bool.and_false, Bool.false_and, Bool.or_true, Bool.true_or, Bool.or_false, Bool.false_or, undef, Out.ren, E.ren, E.rens, AO.ren, List.getElem?_map, hg, Option.map_some, tHu, List.length_map, htl]
  refine awpL_for (i := 23) (L := 22) s.water.length (fun j st => st = { env := [(23, .t (vi j)), (22, .t (vi s.water.length)), (21, .t (.slice 2 (ts.map tTl))), (6, .ptr 0 0), (7, .t (vi (MS j : Nat))), (8, .t (vi (MC j : Nat)))], σ := [.cells [.t (vi 0)]], df := [.call 43 [.ptr 0 0]] }) ?_ ⟨_, Sub.gc [1] [23, 22, 21, 6, 7, 8] rfl rfl, ?_⟩ ?_ ?_
  · rintro k st rfl; exact ⟨rfl, rfl⟩
  · rw [z1, z2]; rfl
  · rintro j st hj rfl
    have hwj : IntKind.i64.wrap ((j : Int) + 1) = ((j + 1 : Nat) : Int) := by rw [wrap_id (by omega) (by omega)]; omega
    have sl := shl_one (i := j) (by omega)
    have hp : 2 ^ j ≤ 256 := Nat.pow_le_pow_right (n := 2) (by decide) (show j ≤ 8 by omega)
    have o1 := bits_or (a := MC j) (b := 2 ^ j) (by have := l1 j; omega) (by omega)
    have o2 := bits_or (a := MS j) (b := 2 ^ j) (by have := l2 j; omega) (by omega)
    have hj0 : ((j : Int) < 0) = False := by simp
    have hgt := htg j hj
    have m1 := m1 j
    have m2 := m2 j
    generalize tf j = t at *
    obtain ⟨y, no⟩ := t
    simp only at m1 m2
    cases y <;> cases no
    all_goals
      simp only [Bool.false_eq_true, if_false, if_true, Bool.not_true, Bool.not_false] at m1 m2
      simp only [go_sem, Nat.reduceEqDiff, Nat.reduceAdd, Nat.reduceSub, Nat.reduceMul, Nat.reduceLT, Nat.reduceLeDiff, Nat.reduceMod, Nat.reduceDiv, Int.reduceToNat, Int.reduceLT, Int.reduceLE, Bool.not_true, Bool.not_false, reduceIte, Int.reduceEq, Int.reduceBEq, Int.reduceBNe, Int.reduceGT, Int.reduceGE, Int.reduceNeg, Int.reduceAdd, Int.reduceSub, Nat.reduceBEq, decide_true, decide_false, undef, beq_self_eq_true, bne_self_eq_false, Bool.and_true, Bool.true_and, Bool.and_false, Bool.false_and, Bool.or_true, Bool.true_or, Bool.or_false, Bool.false_or, undef, List.length_map, List.getElem?_map, hgt, Option.map_some, tTl, sl, o1, o2, hj0, hwj]
      refine ⟨_, Sub.gc [0] [23, 22, 21, 6, 7, 8] rfl rfl, ?_⟩
      rw [m1, m2]
      rfl
  · rintro st rfl
    simp only [go_sem, Nat.reduceEqDiff, Nat.reduceAdd, Nat.reduceSub, Nat.reduceMul, Nat.reduceLT, Nat.reduceLeDiff, Nat.reduceMod, Nat.reduceDiv, Int.reduceToNat, Int.reduceLT, Int.reduceLE, Bool.not_true, Bool.not_false, reduceIte, Int.reduceEq, Int.reduceBEq, Int.reduceBNe, Int.reduceGT, Int.reduceGE, Int.reduceNeg, Int.reduceAdd, Int.reduceSub, Nat.reduceBEq, decide_true, decide_false, undef, beq_self_eq_true, bne_self_eq_false, Bool.and_true, Bool.true_and, Bool.and_false, Bool.false_and, Bool.or_true, Bool.true_or, Bool.or_false, Bool.false_or, undef]
    refine finDL_ret rfl rfl (answer_none.mono fun σ' h => ?_)
    subst h
    exact ⟨_, rfl, [], rfl, rfl, res_mk rfl⟩

def lostN (m : Nat) : Int := if m.testBit 0 then (if m / 2 = 0 then 2 else 1) else 0
set_option maxRecDepth 8000 in
set_option maxHeartbeats 4000000 in
theorem Lost_ok (s : Su) (hs : s.OK) (n : Nat) (hu : Hu) (hg : s.huts[n]? = some hu) : ACall Tryd.prog 21 [.t (.agg (su5 s)), .t (vi n)] [] (res (oneE (lostN (logS s hu s.water.length)) 0)) := by
  refine ACall.walkD k21 ?_
  unfold c21
  obtain ⟨hl, hok, h1, hh⟩ := pre_ok hs hg
  have hnw := hs.nw
  have hrow := hs.rows
  have h52 := isHut_ok s hl n
  rw [h1] at h52
  have h53 := follow_ok s hs hu hh (MapOK.nil s) (clk := 0)
  have hlt := logS_lt s hu ⟨hh.2.2.2.2.1, by have := hh.2.2.2.2.2; omega⟩ s.water.length
  have hlg := lg_get s hu (i := s.water.length) (j := s.water.length) (by omega) (by omega)
  have hop := fun (σ : List AO) (R : Lz (Out → List AO → Prop)) h => openL (σ := σ) (R := R) s true hl (fun h => by rw [hok] at h; cases h) (fun _ h => by cases h) h
  generalize logS s hu s.water.length = m at *
  have h54 := lost_ok m hlt
  have h55 := rows_ok m hlt
  obtain ⟨f, b, r⟩ := hu
  simp only [tHu] at h53
  have hk9 : (s.water.length : Int) < 9 := by omega
  unfold su5 at h52 hop ⊢
  simp only [go_sem, Nat.reduceEqDiff, Nat.reduceAdd, Nat.reduceSub, Nat.reduceMul, Nat.reduceLT, Nat.reduceLeDiff, Nat.reduceMod, Nat.reduceDiv, Int.reduceToNat, Int.reduceLT, Int.reduceLE, Bool.not_true, Bool.not_false, reduceIte, Int.reduceEq, Int.reduceBEq, Int.reduceBNe, Int.reduceGT, Int.reduceGE, Int.reduceNeg, Int.reduceAdd, Int.reduceSub, Nat.reduceBEq, decide_true, decide_false, undef, beq_self_eq_true, bne_self_eq_false, Bool.and_true, Bool.true_and, Bool.and_false, Bool.false_and, Bool.or_true, Bool.true_or, Bool.or_false, Bool.false_or, List.getElem?_map, hg, Option.map_some, tHu]
  refine ACallL.quiet1 h52 rfl rfl rfl ?_
  simp only [go_sem, Nat.reduceEqDiff, Nat.reduceAdd, Nat.reduceSub, Nat.reduceMul, Nat.reduceLT, Nat.reduceLeDiff, Nat.reduceMod, Nat.reduceDiv, Int.reduceToNat, Int.reduceLT, Int.reduceLE, Bool.not_true, Bool.not_false, reduceIte, Int.reduceEq, Int.reduceBEq, Int.reduceBNe, Int.reduceGT, Int.reduceGE, Int.reduceNeg, Int.reduceAdd, Int.reduceSub, Nat.reduceBEq, decide_true, decide_false, undef, beq_self_eq_true, bne_self_eq_false, Bool.and_true, Bool.true_and, Bool.and_false, Bool.false_and, Bool.or_true, Bool.true_or, Bool.or_false, Bool.false_or, undef, List.getElem?_map, hg, Option.map_some, tHu]
  refine hop _ _ fun _ _ => ?_
  simp only [go_sem, Nat.reduceEqDiff, Nat.reduceAdd, Nat.reduceSub, Nat.reduceMul, Nat.reduceLT, Nat.reduceLeDiff, Nat.reduceMod, Nat.reduceDiv, Int.reduceToNat, Int.reduceLT, Int.reduceLE, Bool.not_true, Bool.not_false, reduceIte, Int.reduceEq, Int.reduceBEq, Int.reduceBNe, Int.reduceGT, Int.reduceGE, Int.reduceNeg, Int.reduceAdd, Int.reduceSub, Nat.reduceBEq, decide_true, decide_false, undef, beq_self_eq_true, bne_self_eq_false, Bool.and_true, Bool.true_and, Bool.and_false, Bool.false_and, Bool.or_true, Bool.true_or, Bool.or_false, Bool.false_or, undef, List.getElem?_map, hg, Option.map_some, tHu]
  refine lend1 (m := 2) h53 rfl rfl rfl ?_
  rintro o a ⟨rfl, ks2, xs2, clk2, M2, rfl⟩
  simp only [go_sem, Nat.reduceEqDiff, Nat.reduceAdd, Nat.reduceSub, Nat.reduceMul, Nat.reduceLT, Nat.reduceLeDiff, Nat.reduceMod, Nat.reduceDiv, Int.reduceToNat, Int.reduceLT, Int.reduceLE, Bool.not_true, Bool.not_false, reduceIte, Int.reduceEq, Int.reduceBEq, Int.reduceBNe, Int.reduceGT, Int.reduceGE, Int.reduceNeg, Int.reduceAdd, Int.reduceSub, Nat.reduceBEq, decide_true, decide_false, undef, beq_self_eq_true, bne_self_eq_false, Bool.and_true, Bool.true_and, Bool.and_false, Bool.false_and, Bool.or_true, Bool.true_or, Bool.or_false, Bool.false_or, undef, Out.ren, E.ren, E.rens, AO.ren, List.getElem?_map, hg, Option.map_some, tHu, List.length_map, hk9, Nat.mul_one, hlg]
  refine ACallL.quiet1 h54 rfl rfl rfl ?_
  cases hb : m.testBit 0
  · simp only [go_sem, Nat.reduceEqDiff, Nat.reduceAdd, Nat.reduceSub, Nat.reduceMul, Nat.reduceLT, Nat.reduceLeDiff, Nat.reduceMod, Nat.reduceDiv, Int.reduceToNat, Int.reduceLT, Int.reduceLE, Bool.not_true, Bool.not_false, reduceIte, Int.reduceEq, Int.reduceBEq, Int.reduceBNe, Int.reduceGT, Int.reduceGE, Int.reduceNeg, Int.reduceAdd, Int.reduceSub, Nat.reduceBEq, decide_true, decide_false, undef, beq_self_eq_true, bne_self_eq_false, Bool.and_true, Bool.true_and, Bool.and_false, Bool.false_and, Bool.or_true, Bool.true_or, Bool.or_false, Bool.false_or, undef]
    refine finDL_ret rfl rfl (answer_none.mono fun σ' h => ?_)
    subst h
    exact ⟨_, rfl, [], rfl, rfl, res_mk (by simp only [lostN, hb]; rfl)⟩
  simp only [go_sem, Nat.reduceEqDiff, Nat.reduceAdd, Nat.reduceSub, Nat.reduceMul, Nat.reduceLT, Nat.reduceLeDiff, Nat.reduceMod, Nat.reduceDiv, Int.reduceToNat, Int.reduceLT, Int.reduceLE, Bool.not_true, Bool.not_false, reduceIte, Int.reduceEq, Int.reduceBEq, Int.reduceBNe, Int.reduceGT, Int.reduceGE, Int.reduceNeg, Int.reduceAdd, Int.reduceSub, Nat.reduceBEq, decide_true, decide_false, undef, beq_self_eq_true, bne_self_eq_false, Bool.and_true, Bool.true_and, Bool.and_false, Bool.false_and, Bool.or_true, Bool.true_or, Bool.or_false, Bool.false_or, undef]
  refine ACallL.quiet1 h55 rfl rfl rfl ?_
  cases hz : (((m / 2 : Nat) : Int) == 0)
  · have : ¬ m / 2 = 0 := fun e => by rw [e] at hz; simp at hz
    simp only [go_sem, Nat.reduceEqDiff, Nat.reduceAdd, Nat.reduceSub, Nat.reduceMul, Nat.reduceLT, Nat.reduceLeDiff, Nat.reduceMod, Nat.reduceDiv, Int.reduceToNat, Int.reduceLT, Int.reduceLE, Bool.not_true, Bool.not_false, reduceIte, Int.reduceEq, Int.reduceBEq, Int.reduceBNe, Int.reduceGT, Int.reduceGE, Int.reduceNeg, Int.reduceAdd, Int.reduceSub, Nat.reduceBEq, decide_true, decide_false, undef, beq_self_eq_true, bne_self_eq_false, Bool.and_true, Bool.true_and, Bool.and_false, Bool.false_and, Bool.or_true, Bool.true_or, Bool.or_false, Bool.false_or, undef, hz]
    refine finDL_ret rfl rfl (answer_none.mono fun σ' h => ?_)
    subst h
    exact ⟨_, rfl, [], rfl, rfl, res_mk (by simp only [lostN, hb, if_neg this]; rfl)⟩
  · have : m / 2 = 0 := by have := eq_of_beq hz; omega
    simp only [go_sem, Nat.reduceEqDiff, Nat.reduceAdd, Nat.reduceSub, Nat.reduceMul, Nat.reduceLT, Nat.reduceLeDiff, Nat.reduceMod, Nat.reduceDiv, Int.reduceToNat, Int.reduceLT, Int.reduceLE, Bool.not_true, Bool.not_false, reduceIte, Int.reduceEq, Int.reduceBEq, Int.reduceBNe, Int.reduceGT, Int.reduceGE, Int.reduceNeg, Int.reduceAdd, Int.reduceSub, Nat.reduceBEq, decide_true, decide_false, undef, beq_self_eq_true, bne_self_eq_false, Bool.and_true, Bool.true_and, Bool.and_false, Bool.false_and, Bool.or_true, Bool.true_or, Bool.or_false, Bool.false_or, undef, hz]
    refine finDL_ret rfl rfl (answer_none.mono fun σ' h => ?_)
    subst h
    exact ⟨_, rfl, [], rfl, rfl, res_mk (by simp only [lostN, hb, if_pos this]; rfl)⟩

def specBefore (s : Su) (h : Hu) : Int × Int := if 0 ≤ firstS s h then (firstS s h, 0) else (0, 4)
set_option maxRecDepth 8000 in
set_option maxHeartbeats 4000000 in
theorem Before_ok (s : Su) (hs : s.OK) (n : Nat) (hu : Hu) (hg : s.huts[n]? = some hu) : ACall Tryd.prog 23 [.t (.agg (su5 s)), .t (vi n)] [] (res (oneE (specBefore s hu).1 (specBefore s hu).2)) := by
  refine ACall.walkD k23 ?_
  unfold c23 specBefore
  obtain ⟨hl, hok, h1, hh⟩ := pre_ok hs hg
  have h52 := isHut_ok s hl n
  rw [h1] at h52
  have h62 := first_ok s hs hu hh (MapOK.nil s) (clk := 0)
  have hop := fun (σ : List AO) (R : Lz (Out → List AO → Prop)) h => openL (σ := σ) (R := R) s true hl (fun h => by rw [hok] at h; cases h) (fun _ h => by cases h) h
  generalize firstS s hu = m at *
  obtain ⟨f, b, r⟩ := hu
  simp only [tHu] at h62
  unfold su5 at h52 hop ⊢
  simp only [go_sem, Nat.reduceEqDiff, Nat.reduceAdd, Nat.reduceSub, Nat.reduceMul, Nat.reduceLT, Nat.reduceLeDiff, Nat.reduceMod, Nat.reduceDiv, Int.reduceToNat, Int.reduceLT, Int.reduceLE, Bool.not_true, Bool.not_false, reduceIte, Int.reduceEq, Int.reduceBEq, Int.reduceBNe, Int.reduceGT, Int.reduceGE, Int.reduceNeg, Int.reduceAdd, Int.reduceSub, Nat.reduceBEq, decide_true, decide_false, undef, beq_self_eq_true, bne_self_eq_false, Bool.and_true, Bool.true_and, Bool.and_false, Bool.false_and, Bool.or_true, Bool.true_or, Bool.or_false, Bool.false_or, List.getElem?_map, hg, Option.map_some, tHu]
  refine ACallL.quiet1 h52 rfl rfl rfl ?_
  simp only [go_sem, Nat.reduceEqDiff, Nat.reduceAdd, Nat.reduceSub, Nat.reduceMul, Nat.reduceLT, Nat.reduceLeDiff, Nat.reduceMod, Nat.reduceDiv, Int.reduceToNat, Int.reduceLT, Int.reduceLE, Bool.not_true, Bool.not_false, reduceIte, Int.reduceEq, Int.reduceBEq, Int.reduceBNe, Int.reduceGT, Int.reduceGE, Int.reduceNeg, Int.reduceAdd, Int.reduceSub, Nat.reduceBEq, decide_true, decide_false, undef, beq_self_eq_true, bne_self_eq_false, Bool.and_true, Bool.true_and, Bool.and_false, Bool.false_and, Bool.or_true, Bool.true_or, Bool.or_false, Bool.false_or, undef, List.getElem?_map, hg, Option.map_some, tHu]
  refine hop _ _ fun _ _ => ?_
  simp only [go_sem, Nat.reduceEqDiff, Nat.reduceAdd, Nat.reduceSub, Nat.reduceMul, Nat.reduceLT, Nat.reduceLeDiff, Nat.reduceMod, Nat.reduceDiv, Int.reduceToNat, Int.reduceLT, Int.reduceLE, Bool.not_true, Bool.not_false, reduceIte, Int.reduceEq, Int.reduceBEq, Int.reduceBNe, Int.reduceGT, Int.reduceGE, Int.reduceNeg, Int.reduceAdd, Int.reduceSub, Nat.reduceBEq, decide_true, decide_false, undef, beq_self_eq_true, bne_self_eq_false, Bool.and_true, Bool.true_and, Bool.and_false, Bool.false_and, Bool.or_true, Bool.true_or, Bool.or_false, Bool.false_or, undef, List.getElem?_map, hg, Option.map_some, tHu]
  refine lend1 (m := 2) h62 rfl rfl rfl ?_
  rintro o a ⟨rfl, ks2, xs2, clk2, M2, rfl⟩
  simp only [go_sem, Nat.reduceEqDiff, Nat.reduceAdd, Nat.reduceSub, Nat.reduceMul, Nat.reduceLT, Nat.reduceLeDiff, Nat.reduceMod, Nat.reduceDiv, Int.reduceToNat, Int.reduceLT, Int.reduceLE, Bool.not_true, Bool.not_false, reduceIte, Int.reduceEq, Int.reduceBEq, Int.reduceBNe, Int.reduceGT, Int.reduceGE, Int.reduceNeg, Int.reduceAdd, Int.reduceSub, Nat.reduceBEq, decide_true, decide_false, undef, beq_self_eq_true, bne_self_eq_false, Bool.and_true, Bool.true_and, Bool.and_false, Bool.false_and, Bool.or_true, Bool.true_or, Bool.or_false, Bool.false_or, undef, Out.ren, E.ren, E.rens, AO.ren, List.getElem?_map, hg, Option.map_some, tHu, List.length_map]
  refine ACallL.quiet1 (ask_ok _ 4) rfl rfl (by simp only [askO]; split <;> rfl) ?_
  cases hz : decide (m ≥ 0)
  · have : ¬ 0 ≤ m := of_decide_eq_false hz
    simp only [askO, go_sem, Nat.reduceEqDiff, Nat.reduceAdd, Nat.reduceSub, Nat.reduceMul, Nat.reduceLT, Nat.reduceLeDiff, Nat.reduceMod, Nat.reduceDiv, Int.reduceToNat, Int.reduceLT, Int.reduceLE, Bool.not_true, Bool.not_false, reduceIte, Int.reduceEq, Int.reduceBEq, Int.reduceBNe, Int.reduceGT, Int.reduceGE, Int.reduceNeg, Int.reduceAdd, Int.reduceSub, Nat.reduceBEq, decide_true, decide_false, undef, beq_self_eq_true, bne_self_eq_false, Bool.and_true, Bool.true_and, Bool.and_false, Bool.false_and, Bool.or_true, Bool.true_or, Bool.or_false, Bool.false_or, undef]
    refine finDL_pan rfl rfl ((answer_pan rfl).mono fun σ' h => ?_)
    subst h
    exact ⟨_, rfl, [], rfl, rfl, res_mk (by rw [if_neg this]; rfl)⟩
  · have : 0 ≤ m := of_decide_eq_true hz
    simp only [askO, go_sem, Nat.reduceEqDiff, Nat.reduceAdd, Nat.reduceSub, Nat.reduceMul, Nat.reduceLT, Nat.reduceLeDiff, Nat.reduceMod, Nat.reduceDiv, Int.reduceToNat, Int.reduceLT, Int.reduceLE, Bool.not_true, Bool.not_false, reduceIte, Int.reduceEq, Int.reduceBEq, Int.reduceBNe, Int.reduceGT, Int.reduceGE, Int.reduceNeg, Int.reduceAdd, Int.reduceSub, Nat.reduceBEq, decide_true, decide_false, undef, beq_self_eq_true, bne_self_eq_false, Bool.and_true, Bool.true_and, Bool.and_false, Bool.false_and, Bool.or_true, Bool.true_or, Bool.or_false, Bool.false_or, undef]
    refine finDL_ret rfl rfl (answer_none.mono fun σ' h => ?_)
    subst h
    exact ⟨_, rfl, [], rfl, rfl, res_mk (by rw [if_pos this]; rfl)⟩
end Go.Proofs.YtmahocdmkpigjaaDoor
