/- Proved here: laws that the statements need (RtK, RtL, RtM). No conditions but those that each law states. -/
import Derived.Test.YtcpkkjbkbdmopaaDA

set_option linter.unusedSimpArgs false
set_option linter.unusedVariables false

/- By what is chosen: bathers, whom to search, and counts. -/
namespace Go.Proofs.Ytcpkkjbkbdmopaa
open Go Go.Ab

theorem u64_nat {n : Nat} (h : n < 18446744073709551616) : IntKind.u64.wrap (n : Int) = n := by
  simp only [IntKind.wrap, IntKind.signed, IntKind.bits]
  simp
  omega

def capB (t : Tw) : T := .ptr (.agg [tBeach t (-1) 0 0]) 0
def capT (t : Tw) : T := .ptr (.agg (tw3 t)) 0

/-- By how few bathers. -/
def fewG (t : Tw) (set : Nat) : Int × Bool := ((size set : Nat), decide (0 < (truthsA t (-1) 0 (2 ^ t.bs.length - 1 - set)).length))

/-- By whom to search: of each number in how many truths it is that, the greatest. -/
def mostW (t : Tw) (i : Nat) : Int := match t.bs[i]? with
  | some b => (((canL b i (-1) 0 0).map (waysN t i 0)).filter fun w => decide (0 < w)).foldl max 0
  | none => 0

theorem OfOK.vals {t : Tw} {n z : Nat} {ks : List Int} {mm : List ME} {clk : Nat} (h : OfOK t n z ks mm clk) : mm.map (fun e => iv e.2.2) = (ks.map (waysN t n z)).filter fun w => decide (0 < w) := by
  have := congrArg (List.map Prod.snd) h.is
  rw [List.map_map] at this
  have e1 : ((Prod.snd : Int × Int → Int) ∘ fun e : ME => (key1 e, iv e.2.2)) = fun e => iv e.2.2 := rfl
  rw [e1] at this
  rw [this]
  clear this h
  induction ks with
  | nil => rfl
  | cons k ks ih =>
    simp only [List.map_cons, List.filter_cons]
    split
    · simp only [List.map_cons, ih]
    · exact ih

theorem OfOK.keyL {t : Tw} {n z : Nat} {ks : List Int} {mm : List ME} {clk : Nat} (h : OfOK t n z ks mm clk) : mm.map key1 = ks.filter fun k => decide (0 < waysN t n z k) := by
  have := congrArg (List.map Prod.fst) h.is
  rw [List.map_map] at this
  have e1 : ((Prod.fst : Int × Int → Int) ∘ fun e : ME => (key1 e, iv e.2.2)) = key1 := rfl
  rw [e1] at this
  rw [this]
  clear this h
  induction ks with
  | nil => rfl
  | cons k ks ih =>
    simp only [List.map_cons, List.filter_cons]
    split
    · simp only [List.map_cons, ih]
    · exact ih

theorem search_ok (t : Tw) (ht : t.OK) (i : Nat) (hi : i < t.bs.length) : ACall Try.prog 71 ([.t (vi i)] ++ [capB t].map .t) [] (res (.ret (.tup [.t (vi (mostW t i)), .t (vb true)]))) := by
  refine ACall.walk k71 ?_
  unfold c71
  have hb : t.bs[i]? = some t.bs[i] := List.getElem?_eq_getElem hi
  have hm : mostW t i = (((canL t.bs[i] i (-1) 0 0).map (waysN t i 0)).filter fun w => decide (0 < w)).foldl max 0 := by unfold mostW; rw [hb]
  rw [hm]
  generalize t.bs[i] = b at *
  simp only [capB, go_sem, Nat.reduceEqDiff]
  refine ACallL.freshR (of_ok t ht (-1) 0 0 (by omega) i b hb) rfl (fun _ _ h => h.1) ?_
  rintro out ⟨_, mm, clk, rfl, hO⟩
  simp only [go_sem, Nat.reduceEqDiff, mapOf?]
  refine awpL_mapRange mm hO.wf.nb 0 clk (.t (.map sh1 (mks mm) (mvs mm) clk)) sh1 (fun vis s => s = { env := [(11, .iter 0), (5, .t (vi ((vis.map fun e => iv e.2.2).foldl max 0)))], σ := [.iter (.t (.map sh1 (mks mm) (mvs mm) clk)) clk (vis.map (·.1)) clk], df := [], k := 0 })
    ?_ ⟨_, Sub.gc [0] [11, 5] rfl rfl, rfl⟩ ?_ ?_
  · rintro vis s rfl
    exact ⟨rfl, rfl, mm, rfl, hO.wf.lt, rfl⟩
  · rintro vis e s he hev hvs hvn rfl
    have hfind := ent_find hO.wf.nb he
    have hnd := mks_nodup hO.wf.nb
    have hval := vi_iv hO.pos he
    simp only [go_sem, Nat.reduceEqDiff, mapOf?, List.getLast?_concat, hnd, hfind]
    rw [hval]
    simp only [go_sem, Nat.reduceEqDiff]
    refine ⟨_, Sub.gc [0] [11, 5] rfl rfl, St.gc_mk ?_ (by rw [List.map_append]; rfl) rfl rfl⟩
    simp only [List.map_append, List.map_cons, List.map_nil, List.foldl_append, List.foldl_cons, List.foldl_nil]
    rfl
  · rintro vis s hp rfl
    simp only [go_sem, Nat.reduceEqDiff]
    refine finL_ret [] ⟨rfl, rfl, rfl, rfl, _, rfl, res_mk ?_⟩
    rw [foldl_max_perm (hp.map fun e => iv e.2.2), hO.vals]
    rfl

/-- By which counts clash. -/
def clashG (t : Tw) (p : Nat × Nat) : Int × Bool := ((size p.1 + size p.2 : Nat), (truthsC t (-1) 0 0 (cnts t p.1 p.2)).isEmpty)

theorem EndsOK.empty {t : Tw} {o m : Int} {z : Nat} {cs : List Cnt} {mm : List ME} {clk : Nat} (h : EndsOK t o m z cs mm clk) : (((mvs mm).length : Int) == 0) = (truthsC t o m z cs).isEmpty := by
  rw [mvs_length]
  have h1 := h.all
  cases mm with
  | nil =>
    simp only [wsum_nil] at h1
    have : (truthsC t o m z cs) = [] := List.eq_nil_of_length_eq_zero (by omega)
    rw [this]; rfl
  | cons e mm =>
    rw [wsum_cons] at h1
    have h2 := (h.pos e (by simp)).2
    have h3 : 0 ≤ wsum (fun _ => 1) mm := MPos.le (fun x hx => h.pos x (List.mem_cons_of_mem _ hx)) fun _ => by omega
    have : (truthsC t o m z cs) ≠ [] := fun hh => by rw [hh] at h1; simp at h1; omega
    have hf : (truthsC t o m z cs).isEmpty = false := by simpa using this
    rw [hf]
    simp only [List.length_cons, beq_eq_false_iff_ne]
    omega

end Go.Proofs.Ytcpkkjbkbdmopaa

/- The functions of package towel: what each hands back. -/
namespace Go.Proofs.Ytcpkkjbkbdmopaa
open Go Go.Ab

def spanE (s : Int × Int) (e : Int) : Out := .ret (.tup [.t (tS s), .t (vi e)])
def twoE (a b e : Int) : Out := .ret (.tup [.t (vi a), .t (vi b), .t (vi e)])
def oneE (a e : Int) : Out := .ret (.tup [.t (vi a), .t (vi e)])

/-- Is a number that of a bather? -/
def Tw.isB (t : Tw) (i : Int) : Bool := wI i 0 (t.bs.length - 1)

theorem isB_get {t : Tw} {i : Int} (h : t.isB i = true) : ∃ (n : Nat) (b : B), i = n ∧ t.bs[n]? = some b := by
  unfold Tw.isB wI at h
  have h := of_decide_eq_true h
  refine ⟨i.toNat, t.bs[i.toNat]'(by omega), by omega, List.getElem?_eq_getElem _⟩

/-! ### Own -/
def specOwn (t : Tw) (i : Int) : (Int × Int) × Int :=
  if t.ok then (if t.isB i then (match t.bs[i.toNat]? with | some b => (words b, 0) | none => ((0, 0), 0)) else ((0, 0), 2)) else ((0, 0), 1)

set_option maxRecDepth 2000 in
theorem Own_ok (t : Tw) (i : Int) (hL : t.bs.length < 9223372036854775808) : ACall Try.prog 99 [.t (.agg (tw3 t)), .t (vi i)] [] (res (spanE (specOwn t i).1 (specOwn t i).2)) := by
  refine ACall.walkD k99 ?_
  unfold c99 tw3
  have e1 : IntKind.i64.wrap ((t.bs.length : Int) - 1) = t.bs.length - 1 := wrap_id (by omega) (by omega)
  simp only [go_sem, Nat.reduceEqDiff, Nat.reduceAdd, Nat.reduceLeDiff, List.length_map, e1]
  refine ACallL.quiet1 (within_ok _ _ _) rfl rfl rfl ?_
  simp only [go_sem, Nat.reduceEqDiff, Nat.reduceAdd, Nat.reduceLeDiff, List.length_map]
  refine ACallL.fresh1 (open_ok t (t.isB i)) rfl ?_
  cases hok : t.ok
  · simp only [go_sem, Nat.reduceEqDiff, Bool.false_eq_true, if_false]
    refine finDL_pan rfl rfl ((answer_pan rfl).mono fun σ' h => ?_)
    subst h
    exact ⟨_, rfl, [], rfl, rfl, res_mk (by simp only [specOwn, hok]; rfl)⟩
  · cases hB : t.isB i
    · simp only [go_sem, Nat.reduceEqDiff, Bool.false_eq_true, if_false, if_true]
      refine finDL_pan rfl rfl ((answer_pan rfl).mono fun σ' h => ?_)
      subst h
      exact ⟨_, rfl, [], rfl, rfl, res_mk (by simp only [specOwn, hok, hB]; rfl)⟩
    · obtain ⟨n, b, rfl, hb⟩ := isB_get hB
      simp only [go_sem, Nat.reduceEqDiff, Nat.reduceAdd, Nat.reduceLeDiff, if_true, List.length_map]
      refine ACallL.fresh1 (own_ok t ((Tw.ok_iff t).1 hok) (-1) 0 0 n b hb) rfl ?_
      simp only [tS, go_sem, Nat.reduceEqDiff, Nat.reduceAdd, Nat.reduceLeDiff, List.length_map]
      refine finDL_ret rfl rfl (answer_none.mono fun σ' h => ?_)
      subst h
      exact ⟨_, rfl, [], rfl, rfl, res_mk (by simp only [specOwn, hok, hB, Int.toNat_natCast, hb]; rfl)⟩

/-! ### Count -/
def specCount (t : Tw) : Int × Int := if t.ok then ((truthsA t (-1) 0 0).length, 0) else (0, 1)

theorem Count_ok (t : Tw) : ACall Try.prog 21 [.t (.agg (tw3 t))] [] (res (oneE (specCount t).1 (specCount t).2)) := by
  refine ACall.walkD k21 ?_
  unfold c21 tw3
  simp only [go_sem, Nat.reduceEqDiff, Nat.reduceAdd]
  refine ACallL.fresh1 (open_ok t true) rfl ?_
  cases hok : t.ok
  · simp only [go_sem, Nat.reduceEqDiff, Bool.false_eq_true, if_false]
    refine finDL_pan rfl rfl ((answer_pan rfl).mono fun σ' h => ?_)
    subst h
    exact ⟨_, rfl, [], rfl, rfl, res_mk (by simp only [specCount, hok]; rfl)⟩
  · simp only [go_sem, Nat.reduceEqDiff, if_true]
    refine ACallL.fresh1 (ways_ok t ((Tw.ok_iff t).1 hok) (-1) 0 0 (by omega)) rfl ?_
    simp only [go_sem, Nat.reduceEqDiff]
    refine finDL_ret rfl rfl (answer_none.mono fun σ' h => ?_)
    subst h
    exact ⟨_, rfl, [], rfl, rfl, res_mk (by simp only [specCount, hok]; rfl)⟩

/-! ### Kept -/
def keptOf (t : Tw) (n : Nat) : Int × Int := match t.bs[n]? with
  | some b => hullOf ((canL b n (-1) 0 0).filter fun k => decide (0 < waysN t n 0 k))
  | none => (0, 0)
def isT (t : Tw) : Bool := decide (0 < (truthsA t (-1) 0 0).length)
def specKept (t : Tw) (i : Int) : (Int × Int) × Int :=
  if t.ok then (if t.isB i then (if isT t then (keptOf t i.toNat, 0) else ((0, 0), 10)) else ((0, 0), 2)) else ((0, 0), 1)

set_option maxRecDepth 2000 in
theorem Kept_ok (t : Tw) (i : Int) (hL : t.bs.length < 9223372036854775808) : ACall Try.prog 16 [.t (.agg (tw3 t)), .t (vi i)] [] (res (spanE (specKept t i).1 (specKept t i).2)) := by
  refine ACall.walkD k16 ?_
  unfold c16 tw3
  have e1 : IntKind.i64.wrap ((t.bs.length : Int) - 1) = t.bs.length - 1 := wrap_id (by omega) (by omega)
  simp only [go_sem, Nat.reduceEqDiff, Nat.reduceAdd, Nat.reduceLeDiff, List.length_map, e1]
  refine ACallL.quiet1 (within_ok _ _ _) rfl rfl rfl ?_
  simp only [go_sem, Nat.reduceEqDiff, Nat.reduceAdd, Nat.reduceLeDiff, List.length_map]
  refine ACallL.fresh1 (open_ok t (t.isB i)) rfl ?_
  cases hok : t.ok
  · simp only [go_sem, Nat.reduceEqDiff, Bool.false_eq_true, if_false]
    refine finDL_pan rfl rfl ((answer_pan rfl).mono fun σ' h => ?_)
    subst h
    exact ⟨_, rfl, [], rfl, rfl, res_mk (by simp only [specKept, hok]; rfl)⟩
  · cases hB : t.isB i
    · simp only [go_sem, Nat.reduceEqDiff, Bool.false_eq_true, if_false, if_true]
      refine finDL_pan rfl rfl ((answer_pan rfl).mono fun σ' h => ?_)
      subst h
      exact ⟨_, rfl, [], rfl, rfl, res_mk (by simp only [specKept, hok, hB]; rfl)⟩
    · have ht := (Tw.ok_iff t).1 hok
      obtain ⟨n, b, rfl, hb⟩ := isB_get hB
      simp only [go_sem, Nat.reduceEqDiff, Nat.reduceAdd, Nat.reduceLeDiff, if_true, List.length_map]
      refine ACallL.fresh1 (told_ok t ht (-1) 0 0 (by omega)) rfl ?_
      by_cases hT : 0 < (truthsA t (-1) 0 0).length
      · have hT' : isT t = true := by unfold isT; simpa using hT
        rw [if_pos hT]
        simp only [go_sem, Nat.reduceEqDiff, Nat.reduceAdd, Nat.reduceLeDiff, List.length_map]
        refine ACallL.freshR (of_ok t ht (-1) 0 0 (by omega) n b hb) rfl (fun _ _ h => h.1) ?_
        rintro out ⟨_, mm, clk, rfl, hO⟩
        simp only [go_sem, Nat.reduceEqDiff, Nat.reduceAdd, Nat.reduceLeDiff, List.length_map]
        refine ACallL.fresh1 (hull_ok mm clk hO.wf) rfl ?_
        simp only [tS, go_sem, Nat.reduceEqDiff, Nat.reduceAdd]
        refine finDL_ret rfl rfl (answer_none.mono fun σ' h => ?_)
        subst h
        exact ⟨_, rfl, [], rfl, rfl, res_mk (by simp only [specKept, hok, hB, hT', keptOf, Int.toNat_natCast, hb, hO.keyL]; rfl)⟩
      · have hT' : isT t = false := by unfold isT; simpa using hT
        rw [if_neg hT]
        simp only [go_sem, Nat.reduceEqDiff]
        refine finDL_pan rfl rfl ((answer_pan rfl).mono fun σ' h => ?_)
        subst h
        exact ⟨_, rfl, [], rfl, rfl, res_mk (by simp only [specKept, hok, hB, hT']; rfl)⟩

/-! ### Fewest -/
def specFewest (t : Tw) : Int × Int × Int := if t.ok then (match bestL (fewG t) (List.range (2 ^ t.bs.length)) with
  | some (set, n) => (n, set, 0)
  | none => (0, 0, 10)) else (0, 0, 1)

def specSearch (t : Tw) : Int × Int × Int := if t.ok then (if isT t then (if 1 < (truthsA t (-1) 0 0).length then (match bestL (fun i => (mostW t i, true)) (List.range t.bs.length) with
  | some (i, n) => (i, n, 0)
  | none => (0, 0, 0)) else (0, 0, 11)) else (0, 0, 10)) else (0, 0, 1)

set_option maxRecDepth 2000 in
theorem Search_ok (t : Tw) : ACall Try.prog 22 [.t (.agg (tw3 t))] [] (res (twoE (specSearch t).1 (specSearch t).2.1 (specSearch t).2.2)) := by
  refine ACall.walkD k22 ?_
  unfold c22 tw3
  simp only [go_sem, Nat.reduceEqDiff, Nat.reduceAdd]
  refine ACallL.fresh1 (open_ok t true) rfl ?_
  cases hok : t.ok
  · simp only [go_sem, Nat.reduceEqDiff, Bool.false_eq_true, if_false]
    refine finDL_pan rfl rfl ((answer_pan rfl).mono fun σ' h => ?_)
    subst h
    exact ⟨_, rfl, [], rfl, rfl, res_mk (by simp only [specSearch, hok]; rfl)⟩
  · have ht := (Tw.ok_iff t).1 hok
    have hn := ht.nb
    simp only [go_sem, Nat.reduceEqDiff, if_true]
    refine ACallL.fresh1 (told_ok t ht (-1) 0 0 (by omega)) rfl ?_
    by_cases hT : 0 < (truthsA t (-1) 0 0).length
    · have hT' : isT t = true := by unfold isT; simpa using hT
      rw [if_pos hT]
      simp only [tBeach, go_sem, Nat.reduceEqDiff, Nat.reduceAdd]
      refine ACallL.fresh1 (ways_ok t ht (-1) 0 0 (by omega)) rfl ?_
      simp only [go_sem, Nat.reduceEqDiff]
      refine ACallL.quiet1 (ask_ok _ 11) rfl rfl (by simp only [askO]; split <;> rfl) ?_
      by_cases h1 : 1 < (truthsA t (-1) 0 0).length
      · have h1' : decide (((truthsA t (-1) 0 0).length : Int) > 1) = true := decide_eq_true (by omega)
        simp only [h1', askO, go_sem, Nat.reduceEqDiff, Nat.reduceAdd, Nat.reduceLeDiff, if_true, List.length_map]
        refine ACallL.fresh1 (upTo_ok _ (by omega)) rfl ?_
        simp only [go_sem, Nat.reduceEqDiff]
        refine ACallL.quiet1 (bestN_ok (fun i => (mostW t i, true)) 71 [capB t] (List.range t.bs.length) (by simp; omega) fun i hi => search_ok t ht i (List.mem_range.1 hi)) rfl rfl (by cases bestL (fun i => (mostW t i, true)) (List.range t.bs.length) <;> rfl) ?_
        cases hb : bestL (fun i => (mostW t i, true)) (List.range t.bs.length) with
        | none =>
          simp only [bestE, go_sem, Nat.reduceEqDiff]
          refine finDL_ret rfl rfl (answer_none.mono fun σ' h => ?_)
          subst h
          exact ⟨_, rfl, [], rfl, rfl, res_mk (by simp only [specSearch, hok, hT', h1, hb]; rfl)⟩
        | some p =>
          obtain ⟨i, n⟩ := p
          simp only [bestE, tN, go_sem, Nat.reduceEqDiff]
          refine finDL_ret rfl rfl (answer_none.mono fun σ' h => ?_)
          subst h
          exact ⟨_, rfl, [], rfl, rfl, res_mk (by simp only [specSearch, hok, hT', h1, hb]; rfl)⟩
      · have h1' : decide (((truthsA t (-1) 0 0).length : Int) > 1) = false := decide_eq_false (by omega)
        simp only [h1', askO, go_sem, Nat.reduceEqDiff, Bool.false_eq_true, if_false]
        refine finDL_pan rfl rfl ((answer_pan rfl).mono fun σ' h => ?_)
        subst h
        exact ⟨_, rfl, [], rfl, rfl, res_mk (by simp only [specSearch, hok, hT', h1]; rfl)⟩
    · have hT' : isT t = false := by unfold isT; simpa using hT
      rw [if_neg hT]
      simp only [go_sem, Nat.reduceEqDiff]
      refine finDL_pan rfl rfl ((answer_pan rfl).mono fun σ' h => ?_)
      subst h
      exact ⟨_, rfl, [], rfl, rfl, res_mk (by simp only [specSearch, hok, hT']; rfl)⟩
end Go.Proofs.Ytcpkkjbkbdmopaa

/- Who, All and Clash. -/
namespace Go.Proofs.Ytcpkkjbkbdmopaa
open Go Go.Ab

/-! ### Who -/
def maskOf (p : Nat → Bool) : Nat → Nat
  | 0 => 0
  | k + 1 => if p k then maskOf p k ||| 2 ^ k else maskOf p k

theorem maskOf_lt (p : Nat → Bool) : ∀ k, maskOf p k < 2 ^ k
  | 0 => by simp [maskOf]
  | k + 1 => by
    have ih := maskOf_lt p k
    have h2 : 2 ^ (k + 1) = 2 ^ k + 2 ^ k := by rw [Nat.pow_succ]; omega
    simp only [maskOf]
    split
    · exact Nat.or_lt_two_pow (by omega) (by omega)
    · omega

def specWho (t : Tw) : Int × Int × Int := if t.ok then (if isT t then ((maskOf (fun i => decide ((keptOf t i).1 > 0)) t.bs.length : Nat), (maskOf (fun i => decide ((keptOf t i).2 > 0)) t.bs.length : Nat), 0) else (0, 0, 10)) else (0, 0, 1)

set_option maxRecDepth 2000 in
theorem Who_ok (t : Tw) : ACall Try.prog 42 [.t (.agg (tw3 t))] [] (res (twoE (specWho t).1 (specWho t).2.1 (specWho t).2.2)) := by
  refine ACall.walkD k42 ?_
  unfold c42 tw3
  simp only [go_sem, Nat.reduceEqDiff, Nat.reduceAdd]
  refine ACallL.fresh1 (open_ok t true) rfl ?_
  cases hok : t.ok
  · simp only [go_sem, Nat.reduceEqDiff, Bool.false_eq_true, if_false]
    refine finDL_pan rfl rfl ((answer_pan rfl).mono fun σ' h => ?_)
    subst h
    exact ⟨_, rfl, [], rfl, rfl, res_mk (by simp only [specWho, hok]; rfl)⟩
  · have ht := (Tw.ok_iff t).1 hok
    have hn := ht.nb
    simp only [go_sem, Nat.reduceEqDiff, if_true]
    refine ACallL.fresh1 (told_ok t ht (-1) 0 0 (by omega)) rfl ?_
    by_cases hT : 0 < (truthsA t (-1) 0 0).length
    · have hT' : isT t = true := by unfold isT; simpa using hT
      rw [if_pos hT]
      simp only [go_sem, Nat.reduceEqDiff, Nat.reduceAdd, Nat.reduceLeDiff, List.length_map]
      refine awpL_for (i := 16) (L := 15) t.bs.length (fun k s => s = { env := [(16, .t (vi k)), (15, .t (vi t.bs.length)), (5, .t (tBeach t (-1) 0 0)), (6, .t (vi (maskOf (fun i => decide ((keptOf t i).1 > 0)) k))), (7, .t (vi (maskOf (fun i => decide ((keptOf t i).2 > 0)) k))), (4, .ptr 0 0)], σ := [.cells [.t (vi 0)]], df := [.call 51 [.ptr 0 0]], k := 0 })
        ?_ ⟨_, Sub.gc [1] [16, 15, 5, 6, 7, 4] rfl rfl, rfl⟩ ?_ ?_
      · rintro k s rfl; exact ⟨rfl, rfl⟩
      · rintro k s hk rfl
        have hw : IntKind.i64.wrap ((k : Int) + 1) = ((k + 1 : Nat) : Int) := by rw [wrap_id (by omega) (by omega)]; omega
        have hb : t.bs[k]? = some t.bs[k] := List.getElem?_eq_getElem hk
        have n1 : ¬ ((k : Int) < 0) := by omega
        have hkept : keptOf t k = hullOf ((canL t.bs[k] k (-1) 0 0).filter fun j => decide (0 < waysN t k 0 j)) := by unfold keptOf; rw [hb]
        have h5 : 2 ^ k < 9223372036854775808 := Nat.lt_of_le_of_lt (Nat.pow_le_pow_right (by omega) (show k ≤ 6 by omega)) (by decide)
        have hm1 := maskOf_lt (fun i => decide ((keptOf t i).1 > 0)) k
        have hm2 := maskOf_lt (fun i => decide ((keptOf t i).2 > 0)) k
        have hs1 : maskOf (fun i => decide ((keptOf t i).1 > 0)) (k + 1) = if decide ((keptOf t k).1 > 0) then maskOf (fun i => decide ((keptOf t i).1 > 0)) k ||| 2 ^ k else maskOf (fun i => decide ((keptOf t i).1 > 0)) k := rfl
        have hs2 : maskOf (fun i => decide ((keptOf t i).2 > 0)) (k + 1) = if decide ((keptOf t k).2 > 0) then maskOf (fun i => decide ((keptOf t i).2 > 0)) k ||| 2 ^ k else maskOf (fun i => decide ((keptOf t i).2 > 0)) k := rfl
        generalize maskOf (fun i => decide ((keptOf t i).1 > 0)) k = m1 at *
        generalize maskOf (fun i => decide ((keptOf t i).2 > 0)) k = m2 at *
        generalize t.bs[k] = b at *
        simp only [go_sem, Nat.reduceEqDiff]
        refine ACallL.freshR (of_ok t ht (-1) 0 0 (by omega) k b hb) rfl (fun _ _ h => h.1) ?_
        rintro out ⟨_, mm, clk, rfl, hO⟩
        simp only [go_sem, Nat.reduceEqDiff]
        refine ACallL.fresh1 (hull_ok mm clk hO.wf) rfl ?_
        rw [hO.keyL, ← hkept]
        simp only [tS, go_sem, Nat.reduceEqDiff, Nat.reduceAdd, Nat.reduceLeDiff]
        refine BrL.mk (fun h1 => ?_) (fun h1 => ?_)
        all_goals simp only [go_sem, Nat.reduceEqDiff, Nat.reduceAdd, n1, shl_one (show k < 62 by omega), bits_or (show m1 < 9223372036854775808 by omega) h5]
        all_goals refine BrL.mk (fun h2 => ?_) (fun h2 => ?_)
        all_goals simp only [go_sem, Nat.reduceEqDiff, n1, shl_one (show k < 62 by omega), bits_or (show m2 < 9223372036854775808 by omega) h5, hw]
        all_goals refine ⟨_, Sub.gc [0] [16, 15, 5, 6, 7, 4] rfl rfl, ?_⟩
        all_goals rw [hs1, hs2, h1, h2]
        all_goals rfl
      · rintro s rfl
        simp only [go_sem, Nat.reduceEqDiff]
        refine finDL_ret rfl rfl (answer_none.mono fun σ' h => ?_)
        subst h
        exact ⟨_, rfl, [], rfl, rfl, res_mk (by simp only [specWho, hok, hT']; rfl)⟩
    · have hT' : isT t = false := by unfold isT; simpa using hT
      rw [if_neg hT]
      simp only [go_sem, Nat.reduceEqDiff]
      refine finDL_pan rfl rfl ((answer_pan rfl).mono fun σ' h => ?_)
      subst h
      exact ⟨_, rfl, [], rfl, rfl, res_mk (by simp only [specWho, hok, hT']; rfl)⟩

/-! ### All -/
theorem EndsOK.mem {t : Tw} {o m : Int} {z : Nat} {cs : List Cnt} {mm : List ME} {clk : Nat} (h : EndsOK t o m z cs mm clk) (p : List Int → Bool) : (∃ e ∈ mm, p e.2.1 = true) ↔ ∃ l ∈ truthsC t o m z cs, p (sumT t.bs l) = true := by
  have h1 := h.sum fun s => if p s then 1 else 0
  have hl : ∀ L : List (List Int), 0 < (L.map fun l => if p (sumT t.bs l) then (1 : Int) else 0).sum ↔ ∃ l ∈ L, p (sumT t.bs l) = true := by
    intro L
    have hnn : ∀ L : List (List Int), 0 ≤ (L.map fun l => if p (sumT t.bs l) then (1 : Int) else 0).sum := by
      intro L
      induction L with
      | nil => simp
      | cons l L ih => simp only [List.map_cons, List.sum_cons]; split <;> omega
    induction L with
    | nil => simp
    | cons l L ih =>
      simp only [List.map_cons, List.sum_cons, List.mem_cons, exists_eq_or_imp]
      have := hnn L
      by_cases hp : p (sumT t.bs l) = true
      · simp only [hp, if_true, true_or, iff_true]; omega
      · rw [if_neg hp, Int.zero_add]; exact ih.trans (by simp [hp])
  have hm : ∀ mm : List ME, MPos mm → (0 < wsum (fun s => if p s then 1 else 0) mm ↔ ∃ e ∈ mm, p e.2.1 = true) := by
    intro mm hp
    induction mm with
    | nil => simp [wsum]
    | cons e mm ih =>
      rw [wsum_cons]
      have h2 := (hp e (by simp)).2
      have h3 : 0 ≤ wsum (fun s => if p s then 1 else 0) mm := MPos.le (fun x hx => hp x (List.mem_cons_of_mem _ hx)) fun s => by split <;> omega
      simp only [List.mem_cons, exists_eq_or_imp]
      have ih := ih fun x hx => hp x (List.mem_cons_of_mem _ hx)
      by_cases hpe : p e.2.1 = true
      · simp only [hpe, if_true, true_or, iff_true, Int.mul_one]; omega
      · rw [if_neg hpe, Int.mul_zero, Int.zero_add]; exact ih.trans (by simp [hpe])
  rw [← hm mm h.pos, h1, hl]

theorem foldl_min_le : ∀ (l : List Int) (z : Int), l.foldl min z ≤ z ∧ ∀ x ∈ l, l.foldl min z ≤ x
  | [], z => by simp
  | y :: l, z => by
    obtain ⟨h1, h2⟩ := foldl_min_le l (min z y)
    simp only [List.foldl_cons]
    refine ⟨by omega, fun x hx => ?_⟩
    rcases List.mem_cons.1 hx with rfl | hx
    · omega
    · exact h2 x hx
theorem foldl_min_mem : ∀ (l : List Int) (z : Int), l.foldl min z = z ∨ l.foldl min z ∈ l
  | [], z => by simp
  | y :: l, z => by
    simp only [List.foldl_cons]
    rcases foldl_min_mem l (min z y) with h | h
    · rw [h]
      by_cases hz : z ≤ y
      · left; omega
      · right; have : min z y = y := by omega
        rw [this]; simp
    · right; exact List.mem_cons_of_mem _ h
theorem foldl_max_ge : ∀ (l : List Int) (z : Int), z ≤ l.foldl max z ∧ ∀ x ∈ l, x ≤ l.foldl max z
  | [], z => by simp
  | y :: l, z => by
    obtain ⟨h1, h2⟩ := foldl_max_ge l (max z y)
    simp only [List.foldl_cons]
    refine ⟨by omega, fun x hx => ?_⟩
    rcases List.mem_cons.1 hx with rfl | hx
    · omega
    · exact h2 x hx
theorem foldl_max_mem : ∀ (l : List Int) (z : Int), l.foldl max z = z ∨ l.foldl max z ∈ l
  | [], z => by simp
  | y :: l, z => by
    simp only [List.foldl_cons]
    rcases foldl_max_mem l (max z y) with h | h
    · rw [h]
      by_cases hz : y ≤ z
      · left; omega
      · right; have : max z y = y := by omega
        rw [this]; simp
    · right; exact List.mem_cons_of_mem _ h

theorem hullOf_congr {a b : List Int} (h : ∀ x, x ∈ a ↔ x ∈ b) : hullOf a = hullOf b := by
  have key : ∀ {a b : List Int}, (∀ x ∈ a, x ∈ b) → ∀ z, b.foldl min z ≤ a.foldl min z ∧ a.foldl max (-z) ≤ b.foldl max (-z) := by
    intro a b h z
    obtain ⟨b1, b2⟩ := foldl_min_le b z
    obtain ⟨b3, b4⟩ := foldl_max_ge b (-z)
    refine ⟨?_, ?_⟩
    · rcases foldl_min_mem a z with e | e
      · rw [e]; exact b1
      · exact b2 _ (h _ e)
    · rcases foldl_max_mem a (-z) with e | e
      · rw [e]; exact b3
      · exact b4 _ (h _ e)
  obtain ⟨h1, h2⟩ := key (fun x hx => (h x).1 hx) 1073741824
  obtain ⟨h3, h4⟩ := key (fun x hx => (h x).2 hx) 1073741824
  unfold hullOf
  rw [show (-1073741824 : Int) = -(1073741824) from rfl]
  congr 1 <;> omega

/-- What is kept of all huts. -/
def totS (s : List Int) : Int := (s.take 3).sum
def specAll (t : Tw) : (Int × Int) × Int := if t.ok then (if isT t then (hullOf ((truthsA t (-1) 0 0).map fun l => totS (sumT t.bs l)), 0) else ((0, 0), 10)) else ((0, 0), 1)

theorem key1_mupd {m : List ME} {clk : Nat} {k : Int} {v : T} (h : MWF sh1 m clk) (x : Int) : x ∈ (mupd m clk [k] v).map key1 ↔ x ∈ m.map key1 ∨ x = k := by
  unfold mupd
  cases hf : m.findIdx? fun e => decide ([k] = e.2.1) with
  | none => simp [key1]
  | some i =>
    have e : (m.modify i fun e => (e.1, e.2.1, v)).map key1 = m.map key1 := by
      rw [modify_map key1 (fun e => (e.1, e.2.1, v)) id (fun _ => rfl)]; simp
    simp only [e]
    obtain ⟨hi, hp, _⟩ := List.findIdx?_eq_some_iff_getElem.1 hf
    have hk : key1 m[i] = k := by
      have := of_decide_eq_true hp
      unfold key1; rw [← this]; rfl
    constructor
    · exact .inl
    · rintro (h | rfl)
      · exact h
      · rw [← hk]; exact List.mem_map_of_mem (List.getElem_mem hi)

set_option maxRecDepth 4000 in
set_option maxHeartbeats 1000000 in
theorem All_ok (t : Tw) : ACall Try.prog 15 [.t (.agg (tw3 t))] [] (res (spanE (specAll t).1 (specAll t).2)) := by
  refine ACall.walkD k15 ?_
  unfold c15 tw3
  simp only [go_sem, Nat.reduceEqDiff, Nat.reduceAdd]
  refine ACallL.fresh1 (open_ok t true) rfl ?_
  cases hok : t.ok
  · simp only [go_sem, Nat.reduceEqDiff, Bool.false_eq_true, if_false]
    refine finDL_pan rfl rfl ((answer_pan rfl).mono fun σ' h => ?_)
    subst h
    exact ⟨_, rfl, [], rfl, rfl, res_mk (by simp only [specAll, hok]; rfl)⟩
  have ht := (Tw.ok_iff t).1 hok
  simp only [go_sem, Nat.reduceEqDiff, Nat.reduceAdd, if_true]
  refine ACallL.fresh1 (every_ok t ht (-1) 0 0) rfl ?_
  simp only [go_sem, Nat.reduceEqDiff, pow_cast]
  refine ACallL.fresh1 (counts_ok t ht (-1) 0 0 _ _ (pow_small ht.nh) (pow_small ht.nv)) rfl ?_
  simp only [go_sem, Nat.reduceEqDiff]
  refine ACallL.freshR (ends_ok t ht (-1) 0 0 (by omega) (allC t) (cnts_num t ht _ _) (cnts_len t ht _ _)) rfl (fun _ _ h => h.1) ?_
  rintro out ⟨_, mm, clk, rfl, hE⟩
  simp only [go_sem, Nat.reduceEqDiff, Nat.reduceAdd, mapOf?]
  refine awpL_mapRange mm hE.wf.nb 3 clk (.t (.map sh6 (mks mm) (mvs mm) clk)) sh6 (fun vis s => ∃ m2 clk2, MWF sh1 m2 clk2 ∧ (∀ x, x ∈ m2.map key1 ↔ x ∈ vis.map fun e => totS e.2.1) ∧ s = { env := [(18, .iter 3), (5, .map 2), (2, .ptr 0 0), (3, .ptr 1 0)], σ := [.cells [.t (vi 0), .t (vi 0)], .cells [.t (vi 0)], .map sh1 (mks m2) (mvs m2) clk2, .iter (.t (.map sh6 (mks mm) (mvs mm) clk)) clk (vis.map (·.1)) clk], df := [.call 51 [.ptr 1 0]], k := 0 })
    ?_ ⟨_, Sub.gc [1, 2, 3, 4] [18, 5, 2, 3] rfl rfl, [], 0, MWF.nil rfl, by simp, rfl⟩ ?_ ?_
  · rintro vis s ⟨m2, clk2, _, _, rfl⟩
    exact ⟨rfl, rfl, mm, rfl, hE.wf.lt, rfl⟩
  · rintro vis e s he hev hvs hvn ⟨m2, clk2, hwf, hkeys, rfl⟩
    obtain ⟨born, key, val⟩ := e
    have hlen := hE.wf.lens _ he
    have hbd := hE.bd _ he
    have hfind := ent_find hE.wf.nb he
    have hnd := mks_nodup hE.wf.nb
    simp only at hlen hbd hfind hev
    obtain ⟨p0, p1, p2, p3, p4, p5, rfl⟩ := len6 hlen
    have hkey : keyT sh6 [p0, p1, p2, p3, p4, p5] = .agg [vi p0, vi p1, vi p2, vi p3, vi p4, vi p5] := rfl
    simp only [go_sem, Nat.reduceEqDiff, Nat.reduceAdd, mapOf?, List.getLast?_concat, hnd, hfind, hkey]
    refine awpL_gcp [0, 1, 2, 3] [18, 5, 6, 2, 3] rfl rfl ?_
    have hst : ∀ {s : St} {env' σ' df' k'} {Q : Lz (Ex → St → Prop)}, s.gc [0, 1, 2, 3] [18, 5, 6, 2, 3] = { env := env', σ := σ', df := df', k := k' } → Q.get .normal { env := env', σ := σ', df := df', k := k' } → Q.get .normal (s.gc [0, 1, 2, 3] [18, 5, 6, 2, 3]) := fun h1 h2 => h1 ▸ h2
    refine hst (env' := [(18, .iter 3), (5, .map 2), (6, .t (.ptr (.agg [vi p0, vi p1, vi p2, vi p3, vi p4, vi p5]) 0)), (2, .ptr 0 0), (3, .ptr 1 0)]) (σ' := [.cells [.t (vi 0), .t (vi 0)], .cells [.t (vi 0)], .map sh1 (mks m2) (mvs m2) clk2, .iter (.t (.map sh6 (mks mm) (mvs mm) clk)) clk (vis.map (·.1) ++ [born]) clk]) (df' := [.call 51 [.ptr 1 0]]) (k' := 0) rfl ?_
    simp only [go_sem, Nat.reduceEqDiff, Nat.reduceAdd, Nat.reduceSub, Nat.reduceLeDiff, Int.reduceToNat, Int.reduceLE, bnd]
    refine ACallL.fresh1 (total_ok [p0, p1, p2] (by simp) (fun x hx => by have := hbd x (by simp at hx ⊢; omega); omega)) rfl ?_
    have htot : [p0, p1, p2].sum = totS [p0, p1, p2, p3, p4, p5] := rfl
    rw [htot]
    generalize hk : totS [p0, p1, p2, p3, p4, p5] = k at *
    have hk1 : toKey sh1 (.t (vi k)) = some [k] := rfl
    have hkeys' : ∀ x, x ∈ (mupd m2 clk2 [k] (vb true)).map key1 ↔ x ∈ (vis ++ [(born, [p0, p1, p2, p3, p4, p5], val)]).map fun e => totS e.2.1 := fun x => by
      rw [key1_mupd hwf, hkeys, List.map_append, List.mem_append]
      simp [hk]
    have hwf' := mupd_wf hwf (key := [k]) rfl (vb true)
    cases hf : m2.findIdx? fun e => decide ([k] = e.2.1) with
    | none =>
      obtain ⟨u1, u2, u3⟩ := mupd_none (clk := clk2) (v := vb true) hf
      simp only [go_sem, Nat.reduceEqDiff, hk1, kfind_int hwf.ints (show [k].length = (shKinds sh1).length from rfl) hwf.lens, hf]
      refine ⟨_, Sub.gc [0, 1, 2, 3] [18, 5, 2, 3] rfl rfl, _, _, hwf', hkeys', St.gc_mk rfl ?_ rfl rfl⟩
      rw [u1, u2, u3, List.map_append]
      rfl
    | some i =>
      obtain ⟨u1, u2, u3⟩ := mupd_some (clk := clk2) (v := vb true) hf
      simp only [go_sem, Nat.reduceEqDiff, hk1, kfind_int hwf.ints (show [k].length = (shKinds sh1).length from rfl) hwf.lens, hf]
      refine ⟨_, Sub.gc [0, 1, 2, 3] [18, 5, 2, 3] rfl rfl, _, _, hwf', hkeys', St.gc_mk rfl ?_ rfl rfl⟩
      rw [u1, u2, u3, List.map_append]
      rfl
  · rintro vis s hp ⟨m2, clk2, hwf, hkeys, rfl⟩
    have hmem : ∀ x, x ∈ m2.map key1 ↔ x ∈ (truthsA t (-1) 0 0).map fun l => totS (sumT t.bs l) := fun x => by
      rw [hkeys]
      have h1 := hE.mem fun s => totS s == x
      simp only [beq_iff_eq] at h1
      simp only [List.mem_map]
      constructor
      · rintro ⟨e, he, hx⟩; exact h1.1 ⟨e, hp.subset he, hx⟩
      · intro h
        obtain ⟨e, he, hx⟩ := h1.2 h
        exact ⟨e, hp.symm.subset he, hx⟩
    simp only [go_sem, Nat.reduceEqDiff, mapOf?]
    refine ACallL.quiet1 (ask_ok _ 10) rfl rfl (by simp only [askO]; split <;> rfl) ?_
    by_cases hT : 0 < (truthsA t (-1) 0 0).length
    · have hT' : isT t = true := by unfold isT; simpa using hT
      have hne : decide (((mvs m2).length : Int) > 0) = true := by
        obtain ⟨l, hl⟩ := List.exists_mem_of_length_pos hT
        have := (hmem _).2 (List.mem_map_of_mem (f := fun l => totS (sumT t.bs l)) hl)
        have := List.length_pos_of_mem this
        rw [List.length_map] at this
        rw [mvs_length]
        exact decide_eq_true (by omega)
      simp only [hne, askO, go_sem, Nat.reduceEqDiff, if_true]
      refine ACallL.quiet1 (hullB_ok m2 clk2 hwf) rfl rfl rfl ?_
      simp only [tS, go_sem, Nat.reduceEqDiff, Nat.reduceAdd]
      refine finDL_ret rfl rfl (answer_none.mono fun σ' h => ?_)
      subst h
      refine ⟨_, rfl, [], rfl, rfl, res_mk ?_⟩
      rw [hullOf_congr hmem]
      simp only [specAll, hok, hT']
      rfl
    · have hT' : isT t = false := by unfold isT; simpa using hT
      have hne : decide (((mvs m2).length : Int) > 0) = false := by
        have h0 : truthsA t (-1) 0 0 = [] := List.eq_nil_of_length_eq_zero (by omega)
        have : m2 = [] := by
          cases m2 with
          | nil => rfl
          | cons e m2 =>
            have := (hmem (key1 e)).1 (by simp)
            rw [h0] at this; simp at this
        rw [this]; rfl
      simp only [hne, askO, go_sem, Nat.reduceEqDiff, Bool.false_eq_true, if_false]
      refine finDL_pan rfl rfl ((answer_pan rfl).mono fun σ' h => ?_)
      subst h
      exact ⟨_, rfl, [], rfl, rfl, res_mk (by simp only [specAll, hok, hT']; rfl)⟩
end Go.Proofs.Ytcpkkjbkbdmopaa
