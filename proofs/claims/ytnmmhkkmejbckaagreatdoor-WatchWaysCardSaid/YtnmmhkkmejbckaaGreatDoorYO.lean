/- Proved here: laws that the statements need (WyB, WyB2). No conditions but those that each law states. -/
import Derived.Test.YtnmmhkkmejbckaaGreatDoorYN
import Derived.Test.YtnmmhkkmejbckaaGreatDoorYD

set_option linter.unusedSimpArgs false
set_option linter.unusedVariables false

/- The document's Shows, Fits, Stopped. -/
namespace Go.Proofs.YtnmmhkkmejbckaaGreatDoor
open Go Go.Ab

theorem sorted_eq : ∀ {a b : List Int}, a.Pairwise (· < ·) → b.Pairwise (· < ·) → (∀ x, x ∈ a ↔ x ∈ b) → a = b
  | [], [], _, _, _ => rfl
  | [], y :: b, _, _, h => absurd ((h y).2 (by simp)) (by simp)
  | x :: a, [], _, _, h => absurd ((h x).1 (by simp)) (by simp)
  | x :: a, y :: b, ha, hb, h => by
    rw [List.pairwise_cons] at ha hb
    have hxy : x = y := by
      rcases List.mem_cons.1 ((h x).1 (by simp)) with h1 | h1
      · exact h1
      · rcases List.mem_cons.1 ((h y).2 (by simp)) with h2 | h2
        · exact h2.symm
        · have := hb.1 x h1
          have := ha.1 y h2
          omega
    subst hxy
    congr 1
    refine sorted_eq ha.2 hb.2 fun z => ?_
    constructor
    · intro hz
      rcases List.mem_cons.1 ((h z).1 (by simp [hz])) with h1 | h1
      · have := ha.1 z hz; omega
      · exact h1
    · intro hz
      rcases List.mem_cons.1 ((h z).2 (by simp [hz])) with h1 | h1
      · have := hb.1 z hz; omega
      · exact h1
def seenL (o : Ow) (m : Int) (k : Nat) : List Int := ((List.range k).map fun n : Nat => (n : Int)).filter fun n => seen o m n n
theorem seenL_all {o : Ow} (ho : o.OK) {m : Int} (h : o.set_ ≤ m) : seenL o m 720 = showL o m := by
  have hP := showL_P ho h
  refine sorted_eq ?_ hP.2.1 fun x => ?_
  · unfold seenL
    refine List.Pairwise.filter _ ?_
    refine List.pairwise_map.2 ?_
    refine List.Pairwise.imp ?_ List.pairwise_lt_range
    intro a b hab
    omega
  · rw [hP.1 x]
    unfold seenL
    rw [List.mem_filter, List.mem_map]
    have key : ∀ y : Int, seen o m y y = true ↔ y ∈ handsL o m := fun y => by
      unfold seen
      rw [List.any_eq_true]
      constructor
      · rintro ⟨z, h1, h2⟩
        have := of_decide_eq_true h2
        have e : z = y := by omega
        exact e ▸ h1
      · intro hy
        exact ⟨y, hy, decide_eq_true ⟨Int.le_refl _, Int.le_refl _⟩⟩
    constructor
    · rintro ⟨-, h2⟩
      exact (key x).1 h2
    · intro hx
      obtain ⟨g, -, hg⟩ := (handsL_mem h).1 hx
      have hb := dialI_bd o m g
      exact ⟨⟨x.toNat, List.mem_range.2 (by omega), by omega⟩, (key x).2 hx⟩
theorem seenL_succ (o : Ow) (m : Int) (k : Nat) : seenL o m (k + 1) = seenL o m k ++ if seen o m k k then [(k : Int)] else [] := by
  unfold seenL
  rw [List.range_succ, List.map_append, List.filter_append]
  congr 1
  simp only [List.map_cons, List.map_nil, List.filter_cons, List.filter_nil]
theorem seenL_len (o : Ow) (m : Int) (k : Nat) : (seenL o m k).length ≤ k := by
  unfold seenL
  refine Nat.le_trans (List.length_filter_le _ _) ?_
  simp
def lsT' (r : List Int × Int) : T := if r.2 = 0 then .slice 1 (r.1.map vi) else .lit (.slice none 0 0)
set_option maxRecDepth 8000 in
set_option maxHeartbeats 4000000 in
theorem rShows_ok (w : Wa) (i m : Int) (hL : Lens w) : ACall Tryz.prog 8 [.t (tWa w), .t (vi i), .t (vi m)] [] (res (lsE (specShows w i m).1 (specShows w i m).2)) := by
  refine ACall.walk k8 ?_
  have q1 := rOwner_ok w i hL
  have q2 := rmin_ok m
  have q3 := rcheck_ok w (w.isO i && wI m 0 1440) hL
  have hfin : ∀ e : Int, chkI w (w.isO i && wI m 0 1440) = e → e ≠ 0 → specShows w i m = ([], e) := by
    rintro e rfl
    unfold chkI specShows
    cases w.ok
    · intro _; rfl
    · cases (w.isO i && wI m 0 1440)
      · intro _; rfl
      · intro h; exact absurd rfl h
  have hgo : chkI w (w.isO i && wI m 0 1440) = 0 → w.ok = true ∧ w.isO i = true ∧ wI m 0 1440 = true := by
    unfold chkI
    cases w.ok
    · intro h; simp at h
    · cases h1 : w.isO i
      · intro h; simp at h
      · cases h2 : wI m 0 1440
        · intro h; simp at h
        · intro _; exact ⟨rfl, rfl, rfl⟩
  unfold c8
  unfold tWa wa2 at q1 q3 ⊢
  refine awpL_chop 3 (c1 := ?a1) (c2 := ?a2) (fun st => chkI w (w.isO i && wI m 0 1440) = 0 ∧ lk st.env 1 = .t (vi i) ∧ lk st.env 2 = .t (vi m) ∧ lk st.env 3 = .ptr 0 0 ∧ st.σ = [.cells [.t (.slice 4 (w.os.map tOw)), .t (.slice 5 (w.fs.map tFi))]] ∧ st.df = [] ∧ st.k = 0) ?hc ?_ ?_
  case hc => simp only [chop]; rfl
  · have hend : ∀ {b : Bool}, (w.isO i && wI m 0 1440) = b → ACall Tryz.prog 38 [.t (.agg [.slice 4 (w.os.map tOw), .slice 5 (w.fs.map tFi)]), .t (vb b)] [] (ret (vi (chkI w (w.isO i && wI m 0 1440)))) := by
      rintro b rfl; exact q3
    clear q3
    generalize chkI w (w.isO i && wI m 0 1440) = E at *
    simp only [go_sem, Nat.reduceEqDiff, Nat.reduceAdd]
    refine ACallL.quiet1 q1 rfl rfl rfl ?_
    cases h1 : w.isO i
    · have q3 := hend (b := false) (by rw [h1]; rfl)
      simp only [go_sem, Nat.reduceEqDiff, Nat.reduceAdd, undef]
      refine ACallL.quiet1 q3 rfl rfl rfl ?_
      cases hE : (E != 0)
      rotate_left
      · have hne : E ≠ 0 := fun e => by rw [e] at hE; cases hE
        have hz : (E = 0) = False := eq_false hne
        simp only [go_sem, Nat.reduceEqDiff, Nat.reduceAdd, hE]
        exact finL_ret [] ⟨rfl, rfl, rfl, rfl, _, rfl, res_mk (by rw [hfin E rfl hne]; simp only [lsE, hz, if_false]; rfl)⟩
      · have he : E = 0 := by simpa using hE
        simp only [go_sem, Nat.reduceEqDiff, Nat.reduceAdd, hE]
        exact he
    · simp only [go_sem, Nat.reduceEqDiff, Nat.reduceAdd, beq_self_eq_true]
      refine ACallL.quiet1 q2 rfl rfl rfl ?_
      have q3 := hend (b := wI m 0 1440) (by rw [h1]; rfl)
      simp only [go_sem, Nat.reduceEqDiff, Nat.reduceAdd]
      refine ACallL.quiet1 q3 rfl rfl rfl ?_
      cases hE : (E != 0)
      rotate_left
      · have hne : E ≠ 0 := fun e => by rw [e] at hE; cases hE
        have hz : (E = 0) = False := eq_false hne
        simp only [go_sem, Nat.reduceEqDiff, Nat.reduceAdd, hE]
        exact finL_ret [] ⟨rfl, rfl, rfl, rfl, _, rfl, res_mk (by rw [hfin E rfl hne]; simp only [lsE, hz, if_false]; rfl)⟩
      · have he : E = 0 := by simpa using hE
        simp only [go_sem, Nat.reduceEqDiff, Nat.reduceAdd, hE]
        exact he
  rintro ⟨env, σ, df, dk⟩ ⟨hE, p1, p2, p3, hσ, hdf, hk⟩
  simp only at p1 p2 p3 hσ hdf hk
  subst hσ hdf hk
  obtain ⟨hok, hi, hm⟩ := hgo hE
  obtain ⟨n, rfl, hn⟩ := isO_nat hi
  have hm' := of_decide_eq_true hm
  have hw := (w.ok_iff).1 hok
  have hx : w.os[n]? = some w.os[n] := List.getElem?_eq_getElem hn
  have hxo := hw.os _ (List.getElem_mem hn)
  generalize w.os[n] = o at *
  have hs := specShows_at hok hx hm'
  have hto : tOw o = .agg [vi o.set_, vi o.lo, vi o.hi, vi o.huts] := rfl
  have hn0 : ((n : Int) < 0) = False := eq_false (by omega)
  rw [hs]
  cases g : decide (m < o.set_)
  rotate_left
  · have h0 : ¬ o.set_ ≤ m := by have := of_decide_eq_true g; omega
    rw [if_neg h0]
    simp only [go_sem, Nat.reduceEqDiff, Nat.reduceAdd, Nat.reduceLeDiff, undef, p1, p2, p3, List.getElem?_map, hx, Option.map_some, hto, g]
    exact finL_ret [] ⟨rfl, rfl, rfl, rfl, _, rfl, res_mk rfl⟩
  have h0 : o.set_ ≤ m := by have := of_decide_eq_false g; omega
  rw [if_pos h0, ← seenL_all hxo h0]
  simp only [go_sem, Nat.reduceEqDiff, Nat.reduceAdd, Nat.reduceLeDiff, undef, p1, p2, p3, List.getElem?_map, hx, Option.map_some, hto, g]
  refine awpL_loopK 720 (fun j s => s = { env := [(11, .t (vi j)), (2, .t (vi m)), (9, .ptr 0 0), (10, .loc 1 (seenL o m j).length)], σ := [.cells [.t (vi o.set_), .t (vi o.lo), .t (vi o.hi), .t (vi o.huts)], rowI (seenL o m j)] })
    ⟨_, (Sub.ghost 10 1 (by decide) rfl).trans (Sub.gc [1, 2] [11, 2, 9, 10] rfl rfl), ?_⟩ ?_
  · exact St.gc_mk (by simp only [List.map_cons, List.map_nil, lk, Nat.reduceEqDiff, reduceIte, p2]; rfl) rfl rfl rfl
  clear p1 p2 p3 env
  rintro j s hj rfl
  have hwj : IntKind.i64.wrap ((j : Int) + 1) = ((j + 1 : Nat) : Int) := by rw [wrap_id (by omega) (by omega)]; omega
  have hlen := seenL_len o m j
  cases g2 : decide ((j : Int) < 720)
  · have hje : j = 720 := by have := of_decide_eq_false g2; omega
    subst hje
    generalize seenL o m 720 = S at *
    unfold rowI
    simp only [go_sem, Nat.reduceEqDiff, Int.reduceLT, decide_false]
    refine finL_ret [] ⟨rfl, rfl, rfl, rfl, _, rfl, res_mk ?_⟩
    refine congrArg Out.ret ?_
    show E.gc [] _ 12 (.tup [.loc 1 S.length, .t (vi 0)]) = _
    rw [E.gc]
    simp only [List.map_cons, List.map_nil]
    rw [gc_loc (n := 9) (xs := S.map vi) rfl rfl (by rw [List.length_map])]
    rfl
  have hjl : j < 720 := by have := of_decide_eq_true g2; omega
  have q := rSeen_ok o hxo m j j hm'
  unfold tOw tSp at q
  rw [seenL_succ]
  generalize seenL o m j = P at *
  have x1 : (P.length + 1 ≤ maxLen) = True := eq_true (by unfold maxLen; omega)
  have x2 : ((P.length + 1) * 8 ≤ 140737488355328) = True := eq_true (by omega)
  have happ : ((P.map vi).map E.t) ++ [E.t (vi (j : Int))] = (((P ++ [(j : Int)]).map vi).map E.t) := by simp
  have hl1 : (P ++ [(j : Int)]).length = P.length + 1 := by simp
  unfold rowI
  simp only [go_sem, Nat.reduceEqDiff, Nat.reduceAdd, Nat.reduceLeDiff, g2]
  refine ACallL.quiet1 q rfl rfl rfl ?_
  cases hb : seen o m j j
  · simp only [go_sem, Nat.reduceEqDiff, hwj, if_false, List.append_nil]
    exact ⟨hjl, _, Sub.gc [0, 1] [11, 2, 9, 10] rfl rfl, St.gc_mk rfl (by unfold σgc; simp only [List.map_cons, List.map_nil, List.getD_cons_zero, List.getD_cons_succ, AO.gc, gc_row]; rfl) rfl rfl⟩
  · simp only [go_sem, Nat.reduceEqDiff, Nat.reduceAdd, Nat.reduceLT, hwj, if_true, List.length_map, x1, x2, happ, hl1]
    exact ⟨hjl, _, Sub.gc [0, 1] [11, 2, 9, 10] rfl rfl, St.gc_mk rfl (by unfold σgc; simp only [List.map_cons, List.map_nil, List.getD_cons_zero, List.getD_cons_succ, AO.gc, gc_row]; rfl) rfl rfl⟩
theorem or_add : ∀ a : Nat, a < 64 → ∀ x : Nat, x < 6 → a.testBit x = false → a + 2 ^ x = a ||| 2 ^ x := by decide +kernel
end Go.Proofs.YtnmmhkkmejbckaaGreatDoor

/- The document's Fits, Stopped. -/
namespace Go.Proofs.YtnmmhkkmejbckaaGreatDoor
open Go Go.Ab

theorem chk_good {w : Wa} {v : Bool} (h : chkI w v = 0) : w.ok = true ∧ v = true := by
  unfold chkI at h
  cases hok : w.ok
  · rw [hok] at h; simp at h
  · cases v
    · rw [hok] at h; simp at h
    · exact ⟨rfl, rfl⟩
set_option maxRecDepth 8000 in
set_option maxHeartbeats 4000000 in
theorem rFits_ok (w : Wa) (i : Int) (hL : Lens w) : ACall Tryz.prog 10 [.t (tWa w), .t (vi i)] [] (res (oneE (specFits w i).1 (specFits w i).2)) := by
  refine ACall.walk k10 ?_
  have q1 := rFind_ok w i hL
  have q3 := rcheck_ok w (w.isF i) hL
  have hfin : chkI w (w.isF i) ≠ 0 → specFits w i = (0, chkI w (w.isF i)) := by
    intro h
    unfold chkI specFits at *
    cases hok : w.ok
    · rfl
    · cases hi : w.isF i
      · rfl
      · rw [hok, hi] at h; exact absurd rfl h
  unfold c10
  unfold tWa wa2 at q1 q3 ⊢
  simp only [go_sem, Nat.reduceEqDiff, Nat.reduceAdd]
  refine ACallL.quiet1 q1 rfl rfl rfl ?_
  simp only [go_sem, Nat.reduceEqDiff, Nat.reduceAdd]
  refine ACallL.quiet1 q3 rfl rfl rfl ?_
  by_cases hE : chkI w (w.isF i) = 0
  rotate_left
  · have hE2 : (chkI w (w.isF i) != 0) = true := bne_iff_ne.2 hE
    rw [hfin hE]
    generalize chkI w (w.isF i) = E at *
    simp only [go_sem, Nat.reduceEqDiff, Nat.reduceAdd, hE2]
    exact finL_ret [] ⟨rfl, rfl, rfl, rfl, _, rfl, res_mk rfl⟩
  obtain ⟨hok, hi⟩ := chk_good hE
  rw [hE]
  obtain ⟨n, rfl, hn⟩ := isF_nat hi
  have hw := (w.ok_iff).1 hok
  have hn5 := hw.no
  have hx : w.fs[n]? = some w.fs[n] := List.getElem?_eq_getElem hn
  generalize w.fs[n] = f at *
  rw [specFits_in hok hx]
  have hfN : fitN w.os f = maskW (fitP w.os f) w.os.length := rfl
  rw [hfN]
  have qF := fun (o : Nat) (x : Ow) (ho : w.os[o]? = some x) => rFit_ok w hw (i := n) (k := o) hx ho
  unfold tWa wa2 at qF
  simp only [go_sem, Nat.reduceEqDiff, Nat.reduceAdd, bne_self_eq_false]
  refine awpL_loopK w.os.length (fun j s => s = { env := [(8, .t (vi j)), (1, .t (vi n)), (2, .ptr 0 0), (7, .t (vi (maskW (fitP w.os f) j : Nat)))], σ := [.cells [.t (.slice 4 (w.os.map tOw)), .t (.slice 5 (w.fs.map tFi))]] })
    ⟨_, Sub.gc [0] [8, 1, 2, 7] rfl rfl, St.gc_mk rfl rfl rfl rfl⟩ ?_
  rintro j s hj rfl
  have hwj : IntKind.i64.wrap ((j : Int) + 1) = ((j + 1 : Nat) : Int) := by rw [wrap_id (by omega) (by omega)]; omega
  cases g : decide ((j : Int) < w.os.length)
  · have hje : j = w.os.length := by have := of_decide_eq_false g; omega
    rw [hje] at g ⊢
    simp only [go_sem, Nat.reduceEqDiff, Nat.reduceAdd, Nat.reduceLeDiff, List.length_map, g]
    exact finL_ret [] ⟨rfl, rfl, rfl, rfl, _, rfl, res_mk rfl⟩
  have hjl : j < w.os.length := by have := of_decide_eq_true g; omega
  have ho : w.os[j]? = some w.os[j] := List.getElem?_eq_getElem hjl
  have hF := qF j _ ho
  have hms : maskW (fitP w.os f) (j + 1) = maskW (fitP w.os f) j ||| if fitP w.os f j then 2 ^ j else 0 := rfl
  have hml := maskW_lt (fitP w.os f) j
  have hmb := maskW_bit (fitP w.os f) j j
  have hp5 : 2 ^ j ≤ 2 ^ 5 := Nat.pow_le_pow_right (by omega) (by omega)
  have qP := power_ok j (by omega)
  rw [hms, fitP_at ho]
  rw [decide_eq_false (Nat.lt_irrefl j), Bool.false_and] at hmb
  generalize maskW (fitP w.os f) j = M at *
  have hadd := or_add M (by omega) j (by omega) hmb
  have hw2 : IntKind.i64.wrap ((M : Int) + ((2 ^ j : Nat) : Int)) = ((M ||| 2 ^ j : Nat) : Int) := by rw [← hadd, wrap_id (by omega) (by omega)]; omega
  simp only [go_sem, Nat.reduceEqDiff, Nat.reduceAdd, Nat.reduceLeDiff, List.length_map, g]
  refine ACallL.quiet1 hF rfl rfl rfl ?_
  cases hb : fitB w.os[j] f
  · simp only [go_sem, Nat.reduceEqDiff, hwj, if_false, Nat.or_zero]
    exact ⟨hjl, _, Sub.gc [0] [8, 1, 2, 7] rfl rfl, St.gc_mk rfl rfl rfl rfl⟩
  · simp only [go_sem, Nat.reduceEqDiff]
    refine ACallL.quiet1 qP rfl rfl rfl ?_
    simp only [go_sem, Nat.reduceEqDiff, hwj, hw2, if_true]
    exact ⟨hjl, _, Sub.gc [0] [8, 1, 2, 7] rfl rfl, St.gc_mk rfl rfl rfl rfl⟩

theorem mins_stops {o : Ow} {f : Fi} (hs : f.stopped = true) (hh : hutB o f = true) : minsL o f = stopsL o f := by
  unfold minsL stopsL
  rw [hs, if_pos rfl]
  refine List.filter_congr fun m _ => ?_
  unfold atB
  rw [hh, Bool.true_and]
set_option maxRecDepth 8000 in
set_option maxHeartbeats 8000000 in
theorem rStopped_ok (w : Wa) (i k : Int) (hL : Lens w) : ACall Tryz.prog 12 [.t (tWa w), .t (vi i), .t (vi k)] [] (res (spsE (specStopped w i k).1 (specStopped w i k).2)) := by
  refine ACall.walk k12 ?_
  have q1 := rFind_ok w i hL
  have q2 := rOwner_ok w k hL
  have q3 := rcheck_ok w (w.isF i && w.isO k) hL
  have hfin : chkI w (w.isF i && w.isO k) ≠ 0 → specStopped w i k = ([], chkI w (w.isF i && w.isO k)) := by
    intro h
    unfold chkI specStopped at *
    cases hok : w.ok
    · rfl
    · cases hi : (w.isF i && w.isO k)
      · rfl
      · rw [hok, hi] at h; exact absurd rfl h
  unfold c12
  unfold tWa wa2 at q1 q2 q3 ⊢
  refine awpL_chop 3 (c1 := ?a1) (c2 := ?a2) (fun st => chkI w (w.isF i && w.isO k) = 0 ∧ lk st.env 1 = .t (vi i) ∧ lk st.env 2 = .t (vi k) ∧ lk st.env 3 = .ptr 0 0 ∧ st.σ = [.cells [.t (.slice 4 (w.os.map tOw)), .t (.slice 5 (w.fs.map tFi))]] ∧ st.df = [] ∧ st.k = 0) ?hc ?_ ?_
  case hc => simp only [chop]; rfl
  · have hend : ∀ {b : Bool}, (w.isF i && w.isO k) = b → ACall Tryz.prog 38 [.t (.agg [.slice 4 (w.os.map tOw), .slice 5 (w.fs.map tFi)]), .t (vb b)] [] (ret (vi (chkI w (w.isF i && w.isO k)))) := by
      rintro b rfl; exact q3
    clear q3
    generalize chkI w (w.isF i && w.isO k) = E at *
    simp only [go_sem, Nat.reduceEqDiff, Nat.reduceAdd]
    refine ACallL.quiet1 q1 rfl rfl rfl ?_
    cases h1 : w.isF i
    · have q3 := hend (b := false) (by rw [h1]; rfl)
      simp only [go_sem, Nat.reduceEqDiff, Nat.reduceAdd, undef]
      refine ACallL.quiet1 q3 rfl rfl rfl ?_
      by_cases hE : E = 0
      · subst hE
        simp only [go_sem, Nat.reduceEqDiff, Nat.reduceAdd, undef, bne_self_eq_false]
      · have hE2 : (E != 0) = true := bne_iff_ne.2 hE
        have hz : (E = 0) = False := eq_false hE
        simp only [go_sem, Nat.reduceEqDiff, Nat.reduceAdd, undef, hE2]
        exact finL_ret [] ⟨rfl, rfl, rfl, rfl, _, rfl, res_mk (by rw [hfin hE]; simp only [spsE, hz, if_false]; rfl)⟩
    · simp only [go_sem, Nat.reduceEqDiff, Nat.reduceAdd, beq_self_eq_true]
      refine ACallL.quiet1 q2 rfl rfl rfl ?_
      have q3 := hend (b := w.isO k) (by rw [h1]; rfl)
      simp only [go_sem, Nat.reduceEqDiff, Nat.reduceAdd]
      refine ACallL.quiet1 q3 rfl rfl rfl ?_
      by_cases hE : E = 0
      · subst hE
        simp only [go_sem, Nat.reduceEqDiff, Nat.reduceAdd, undef, beq_self_eq_true, bne_self_eq_false]
      · have hE2 : (E != 0) = true := bne_iff_ne.2 hE
        have hz : (E = 0) = False := eq_false hE
        simp only [go_sem, Nat.reduceEqDiff, Nat.reduceAdd, undef, beq_self_eq_true, hE2]
        exact finL_ret [] ⟨rfl, rfl, rfl, rfl, _, rfl, res_mk (by rw [hfin hE]; simp only [spsE, hz, if_false]; rfl)⟩
  rintro ⟨env, σ, df, dk⟩ ⟨hE, p1, p2, p3, hσ, hdf, hk⟩
  simp only at p1 p2 p3 hσ hdf hk
  subst hσ hdf hk
  obtain ⟨hok, hik⟩ := chk_good hE
  rw [Bool.and_eq_true] at hik
  obtain ⟨n, rfl, hn⟩ := isF_nat hik.1
  obtain ⟨k, rfl, hkn⟩ := isO_nat hik.2
  have hw := (w.ok_iff).1 hok
  have hx : w.fs[n]? = some w.fs[n] := List.getElem?_eq_getElem hn
  have hff := hw.fs _ (List.getElem_mem hn)
  have hxo : w.os[k]? = some w.os[k] := List.getElem?_eq_getElem hkn
  have hoo := hw.os _ (List.getElem_mem hkn)
  have hs : specStopped w n k = if w.fs[n].stopped then (if minsL w.os[k] w.fs[n] = [] then ([], 4) else (spansL (minsL w.os[k] w.fs[n]), 0)) else ([], 11) := by
    unfold specStopped
    rw [hok, if_pos rfl, hik.1, hik.2, Bool.true_and, if_pos rfl, Int.toNat_natCast, Int.toNat_natCast, hx, hxo]
  generalize w.fs[n] = f at *
  generalize w.os[k] = o at *
  have hto : tOw o = .agg [vi o.set_, vi o.lo, vi o.hi, vi o.huts] := rfl
  have htf : tFi f = .agg [vi f.hut, vi f.minute, vi f.lo, vi f.hi, vb f.stopped] := rfl
  have hn0 : ((n : Int) < 0) = False := eq_false (by omega)
  have hk0 : ((k : Int) < 0) = False := eq_false (by omega)
  have qF := rFit_ok w hw hx hxo
  have qS := rStops_ok o hoo f hff
  unfold tWa wa2 at qF
  rw [hs]
  cases hc : f.stopped
  · simp only [go_sem, Nat.reduceEqDiff, Nat.reduceAdd, Bool.not_false, p1, p3, htf, hx, List.getElem?_map, Option.map_some, hc, Bool.false_eq_true, if_false]
    exact finL_ret [] ⟨rfl, rfl, rfl, rfl, _, rfl, res_mk rfl⟩
  rw [if_pos rfl]
  cases hb : fitB o f
  · have he : minsL o f = [] := by
      unfold fitB at hb
      rw [Bool.not_eq_false'] at hb
      exact List.isEmpty_iff.1 hb
    rw [if_pos he]
    simp only [go_sem, Nat.reduceEqDiff, Nat.reduceAdd, Bool.not_true, p1, p2, p3, htf, hx, List.getElem?_map, Option.map_some, hc]
    refine ACallL.quiet1 qF rfl rfl rfl ?_
    simp only [go_sem, Nat.reduceEqDiff, Bool.not_false, hb]
    exact finL_ret [] ⟨rfl, rfl, rfl, rfl, _, rfl, res_mk rfl⟩
  have hh : hutB o f = true := by
    rw [fitB_split, Bool.and_eq_true] at hb
    exact hb.1
  have hne : minsL o f ≠ [] := by
    intro e
    unfold fitB at hb
    rw [e] at hb
    cases hb
  have hlen := minsL_len o hoo f hff
  have hbd := fun x => @minsL_bd o hoo f hff x
  rw [if_neg hne]
  rw [mins_stops hc hh] at hlen hbd ⊢
  generalize stopsL o f = L at *
  rw [hto, htf] at qS
  rw [hc] at qS
  simp only [go_sem, Nat.reduceEqDiff, Nat.reduceAdd, Bool.not_true, p1, p2, p3, htf, hx, List.getElem?_map, Option.map_some, hc]
  refine ACallL.quiet1 qF rfl rfl rfl ?_
  simp only [go_sem, Nat.reduceEqDiff, Nat.reduceAdd, Nat.reduceLeDiff, Bool.not_true, hb, htf, hto, hx, hxo, p1, p2, p3, List.getElem?_map, Option.map_some, hc]
  refine ACallL.fresh1 qS rfl ?_
  simp only [go_sem, Nat.reduceEqDiff, Nat.reduceAdd, Nat.reduceLeDiff, p3, htf, hto, hx, hxo, List.getElem?_map, Option.map_some, hc]
  refine awpL_loopK L.length (fun j s => s = { env := [(11, .t (vi j)), (9, .loc 0 (spansL (L.take j)).length), (10, .t (.slice 1 (L.map vi)))], σ := [rowS (spansL (L.take j))] })
    ⟨_, (Sub.ghost 9 2 (by decide) rfl).trans (Sub.gc [1] [11, 9, 10] rfl rfl), ?_⟩ ?_
  · exact St.gc_mk (by simp only [List.map_cons, List.map_nil, lk, Nat.reduceEqDiff, reduceIte]; rfl) rfl rfl rfl
  clear p1 p2 p3 env
  rintro j s hj rfl
  have hj0 : ((j : Int) < 0) = False := eq_false (by omega)
  have hwj : IntKind.i64.wrap ((j : Int) + 1) = ((j + 1 : Nat) : Int) := by rw [wrap_id (by omega) (by omega)]; omega
  cases g : decide ((j : Int) < L.length)
  · have hje : j = L.length := by have := of_decide_eq_false g; omega
    rw [hje] at g ⊢
    rw [List.take_length]
    generalize spansL L = X at *
    unfold rowS
    simp only [go_sem, Nat.reduceEqDiff, List.length_map, g]
    refine finL_ret [] ⟨rfl, rfl, rfl, rfl, _, rfl, res_mk ?_⟩
    refine congrArg Out.ret ?_
    show E.gc [] _ 12 (.tup [.loc 0 X.length, .t (vi 0)]) = _
    rw [E.gc]
    simp only [List.map_cons, List.map_nil]
    rw [gc_loc (n := 9) (xs := tSps X) rfl rfl (by unfold tSps; rw [List.length_map])]
    rfl
  have hjl : j < L.length := by have := of_decide_eq_true g; omega
  have hxj : L[j]? = some L[j] := List.getElem?_eq_getElem hjl
  have hxb := hbd _ (List.getElem_mem hjl)
  generalize L[j] = x at *
  have htk : L.take (j + 1) = L.take j ++ [x] := by rw [List.take_add_one, hxj]; rfl
  have hlj : (spansL (L.take j)).length ≤ j := by
    have := spansL_len (L.take j)
    rw [List.length_take] at this
    omega
  rw [htk, spansL_snoc]
  clear htk
  generalize spansL (L.take j) = X at *
  have w1 : IntKind.i64.wrap (x - 1) = x - 1 := wrap_id (by omega) (by omega)
  rcases List.eq_nil_or_concat X with rfl | ⟨Y, p, rfl⟩
  · have hst : stepS [] x = [(x, x)] := rfl
    have x1 : (1 ≤ maxLen) = True := eq_true (by unfold maxLen; omega)
    rw [hst]
    simp only [go_sem, Nat.reduceEqDiff, Nat.reduceAdd, Nat.reduceMul, Nat.reduceLT, Nat.reduceLeDiff, Int.reduceGT, decide_false, undef, rowS, tSps, List.map_nil, List.length_nil, List.length_cons, List.length_map, g, List.getElem?_map, hxj, Option.map_some, x1, hwj]
    exact ⟨hjl, _, Sub.gc [0] [11, 9, 10] rfl rfl, St.gc_mk rfl rfl rfl rfl⟩
  · rw [List.concat_eq_append] at *
    have hl : (Y ++ [p]).length = Y.length + 1 := by simp
    have w2 : IntKind.i64.wrap (((Y.length + 1 : Nat) : Int) - 1) = (Y.length : Int) := by rw [wrap_id (by omega) (by omega)]; omega
    have wg : decide (((Y.length + 1 : Nat) : Int) > 0) = true := decide_eq_true (by omega)
    have wn : ((Y.length : Int) < 0) = False := eq_false (by omega)
    have hlX : (tSps (Y ++ [p])).length = Y.length + 1 := by unfold tSps; rw [List.length_map, hl]
    have hget : (tSps (Y ++ [p]))[Y.length]? = some (.agg [vi p.1, vi p.2]) := by unfold tSps; simp [tSp]
    have x1 : (Y.length + 1 + 1 ≤ maxLen) = True := eq_true (by unfold maxLen; omega)
    have x2 : ((Y.length + 1 + 1) * 16 ≤ 140737488355328) = True := eq_true (by omega)
    have x0 : ((Y.length : Int) < ((Y.length + 1 : Nat) : Int)) = True := eq_true (by omega)
    have hgl : (Y ++ [p]).getLast? = some p := by simp
    have hdl : (Y ++ [p]).dropLast = Y := by simp
    rw [hl]
    cases hb2 : p.2 == x - 1
    · have hne : p.2 ≠ x - 1 := fun e => by rw [e] at hb2; simp at hb2
      have hst : stepS (Y ++ [p]) x = Y ++ [p] ++ [(x, x)] := by unfold stepS; rw [hgl]; simp only [if_neg hne]
      have happ : (tSps (Y ++ [p])).map E.t ++ [E.t (.agg [vi x, vi x])] = (tSps (Y ++ [p] ++ [(x, x)])).map E.t := by simp [tSps, tSp]
      have hl2 : (Y ++ [p] ++ [(x, x)]).length = Y.length + 1 + 1 := by simp
      rw [hst, hl2]
      simp only [go_sem, Nat.reduceEqDiff, Nat.reduceAdd, Nat.reduceLT, Nat.reduceLeDiff, beq_self_eq_true, rowS, List.length_map, List.getElem?_map, Option.map_some, hxj, g, hlX, hget, w1, w2, wg, x0, hb2, x1, x2, happ, hwj]
      exact ⟨hjl, _, Sub.gc [0] [11, 9, 10] rfl rfl, St.gc_mk rfl (by unfold σgc; simp only [List.map_cons, List.map_nil, List.getD_cons_zero, AO.gc, gc_row]) rfl rfl⟩
    · have he : p.2 = x - 1 := by simpa using hb2
      have hst : stepS (Y ++ [p]) x = Y ++ [(p.1, x)] := by unfold stepS; rw [hgl]; simp only [if_pos he, hdl]
      have hl2 : (Y ++ [(p.1, x)]).length = Y.length + 1 := by simp
      rw [hst, hl2]
      have hset : ((tSps (Y ++ [p])).map E.t).set Y.length (E.t (.agg [vi p.1, vi x])) = (tSps (Y ++ [(p.1, x)])).map E.t := by simp [tSps, tSp]
      simp only [go_sem, Nat.reduceEqDiff, Nat.reduceAdd, Bool.not_false, undef, beq_self_eq_true, rowS, List.length_map, List.getElem?_map, Option.map_some, hxj, g, hlX, hget, w1, w2, wg, x0, hb2, hset, hwj]
      exact ⟨hjl, _, Sub.gc [0] [11, 9, 10] rfl rfl, St.gc_mk rfl (by unfold σgc; simp only [List.map_cons, List.map_nil, List.getD_cons_zero, AO.gc, gc_row]) rfl rfl⟩
end Go.Proofs.YtnmmhkkmejbckaaGreatDoor
