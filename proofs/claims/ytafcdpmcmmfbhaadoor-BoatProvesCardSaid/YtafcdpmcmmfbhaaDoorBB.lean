/- Proved here: laws that the statements need (BoG, BoH, BoI, BoJ). No conditions but those that each law states. -/
import Derived.Test.YtafcdpmcmmfbhaaDoorBA

set_option linter.unusedSimpArgs false
set_option linter.unusedVariables false

/- What a boat is held to; the minutes; plain questions. -/
namespace Go.Proofs.YtafcdpmcmmfbhaaDoor
open Go Go.Ab

structure Qu where
  boat : Nat
  without : Nat
  row : Nat
  speed : Nat
abbrev tQu (q : Qu) : T := .agg [vi q.boat, vi q.without, vi q.row, vi q.speed]
/-- The sightings that are kept, of the first n. -/
def kept (l : List Si) (w n : Nat) : List Si := (List.range n).filterMap fun i => if w.testBit i then none else l[i]?
theorem kept_succ (l : List Si) (w : Nat) {n : Nat} {s : Si} (h : l[n]? = some s) : kept l w (n + 1) = if w.testBit n then kept l w n else kept l w n ++ [s] := by
  unfold kept
  rw [List.range_succ, List.filterMap_append, List.filterMap_cons, List.filterMap_nil, h]
  cases w.testBit n <;> simp
theorem kept_mem {l : List Si} {w n : Nat} {s : Si} : s ∈ kept l w n ↔ ∃ i < n, w.testBit i = false ∧ l[i]? = some s := by
  unfold kept
  rw [List.mem_filterMap]
  constructor
  · rintro ⟨i, hi, h⟩
    refine ⟨i, List.mem_range.1 hi, ?_⟩
    split at h
    · cases h
    · rename_i hw; exact ⟨by simpa using hw, h⟩
  · rintro ⟨i, hi, hw, h⟩
    exact ⟨i, List.mem_range.2 hi, by rw [if_neg (by simp [hw])]; exact h⟩
def tHold (s : Si) : T := .iface 133 (tSi s)
def holdsT (n : Nat) (l : List Si) : List T := .iface 131 (rowsT n) :: l.map tHold

set_option maxRecDepth 8000 in
set_option maxHeartbeats 4000000 in
theorem holds_ok (b : Bo) (hb : b.OK) (x : T) (q : Qu) (l : List Si) (hl : b.seen[q.boat]? = some l) (hw : q.without < 4611686018427387904) : ACall Tryd.prog 91 [.t (waT b x), .t (tQu q)] [] (ret (.slice 1 (holdsT q.row (kept l q.without l.length)))) := by
  refine ACall.walk k91 ?_
  have hl5 := hb.lens l (List.mem_of_getElem? hl)
  have hbn : (q.boat : Int) < b.seen.length := by have := (List.getElem?_eq_some_iff.1 hl).1; omega
  unfold c91
  simp only [go_sem, Nat.reduceEqDiff, Nat.reduceAdd, Nat.reduceLT, Nat.reduceLeDiff, List.length_map, List.getElem?_map, hl, Option.map_some, tSis]
  refine awpL_for (i := 23) (L := 22) l.length (fun j st => st = { env := [(23, .t (vi j)), (22, .t (vi l.length)), (21, .t (.slice 5 (l.map tSi))), (3, .t (.ptr (tQu q) 0)), (5, .loc 0 (holdsT q.row (kept l q.without j)).length)], σ := [.row 1 ((holdsT q.row (kept l q.without j)).map .t)] }) ?_ ⟨_, Sub.gc [1] [23, 22, 21, 3, 5] rfl rfl, rfl⟩ ?_ ?_
  · rintro k st rfl; exact ⟨rfl, rfl⟩
  · rintro j st hj rfl
    have hwj : IntKind.i64.wrap ((j : Int) + 1) = ((j + 1 : Nat) : Int) := by rw [wrap_id (by omega) (by omega)]; omega
    have hs : l[j]? = some l[j] := List.getElem?_eq_getElem hj
    have hk := kept_succ l q.without hs
    have hjn : ((j : Int) < 0) = False := by simp
    have hjj : (j : Int) < l.length := by omega
    have hb0 := bit_eq0 (a := q.without) (i := j) (by omega)
    have hkl : (kept l q.without j).length ≤ j := Nat.le_trans (List.length_filterMap_le _ _) (by simp)
    generalize l[j] = s at *
    generalize kept l q.without (j + 1) = K1 at *
    generalize kept l q.without j = K0 at *
    obtain ⟨sm, c1, c2, r1, r2⟩ := s
    simp only [go_sem, Nat.reduceEqDiff, Nat.reduceAdd, undef, undef, List.getElem?_map, hs, Option.map_some, tSi, hjn, hb0]
    cases hB : q.without.testBit j
    · rw [hB, if_neg (by simp)] at hk
      simp only [go_sem, Nat.reduceEqDiff, Nat.reduceAdd, Nat.reduceLT, Bool.not_false, List.length_map, hwj]
      have hle : (holdsT q.row K0).length = K0.length + 1 := by simp [holdsT]
      refine ⟨⟨by unfold maxLen; omega, by omega⟩, _, Sub.gc [0] [23, 22, 21, 3, 5] rfl rfl, ?_⟩
      have he : holdsT q.row K1 = holdsT q.row K0 ++ [tHold ⟨sm, c1, c2, r1, r2⟩] := by rw [hk]; unfold holdsT; rw [List.map_append]; rfl
      rw [he, List.length_append, List.map_append]
      exact St.gc_mk rfl (by
        show [AO.row 1 ((List.map E.t _ ++ List.map E.t [_]).map (E.gc _ _ _))] = _
        rw [List.map_append, gc_row, gc_row]
        rfl) rfl rfl
    · rw [hB, if_pos rfl] at hk
      simp only [go_sem, Nat.reduceEqDiff, Bool.not_true, hwj]
      rw [hk]
      exact ⟨_, Sub.gc [0] [23, 22, 21, 3, 5] rfl rfl, St.gc_mk rfl (by
        show [AO.row 1 ((List.map E.t _).map (E.gc _ _ _))] = _
        rw [gc_row]) rfl rfl⟩
  · rintro st rfl
    simp only [go_sem, Nat.reduceEqDiff]
    refine finL_ret [] ⟨rfl, rfl, rfl, rfl, _, rfl, ⟨?_, rfl⟩⟩
    show Out.ret (E.gc [] _ 12 (.loc 0 _)) = _
    rw [gc_loc (n := 10) (xs := holdsT q.row (kept l q.without l.length)) rfl rfl rfl]

/-! ### The minutes -/
def Bo.L (b : Bo) : Nat := b.last.toNat
theorem Bo.OK.L {b : Bo} (h : b.OK) : b.L ≤ 12 ∧ b.last = b.L := by have := h.last; unfold Bo.L; omega
def minN (b : Bo) (back : Bool) (m : Nat) : Nat := if back then b.L - m else m
def minL (b : Bo) (back : Bool) : List Value := (List.range (b.L + 1)).map fun m => .int .i64 (minN b back m)
theorem minL_at (b : Bo) (back : Bool) {m : Nat} (h : m < b.L + 1) : (minL b back)[m]? = some (.int .i64 (minN b back m)) := by
  unfold minL
  rw [List.getElem?_map, List.getElem?_range h]; rfl
theorem minL_len (b : Bo) (back : Bool) : (minL b back).length = b.L + 1 := by simp [minL]
set_option maxRecDepth 8000 in
set_option maxHeartbeats 4000000 in
theorem minutes_gen (b : Bo) (hb : b.OK) (x : T) (back : Bool) : AGen Tryd.prog 87 [.yld, .t (.ptr (.agg [waT b x]) 0), .t (.ptr (.agg [vb back]) 0)] (minL b back) (stp true (minL b back)) := by
  refine AGen.walkS k87 ?_
  unfold c87
  obtain ⟨l1, l2⟩ := hb.L
  have w1 : IntKind.i64.wrap (b.last + 1) = ((b.L + 1 : Nat) : Int) := by rw [wrap_id (by omega) (by omega)]; omega
  simp only [go_sem, Nat.reduceEqDiff, Nat.reduceAdd, w1]
  have hlen := minL_len b back
  have hat := fun m => minL_at b back (m := m)
  generalize minL b back = ML at *
  refine awpL_for (i := 11) (L := 10) (b.L + 1) (fun j st => st = { env := [(11, .t (vi j)), (10, .t (vi (b.L + 1 : Nat))), (0, .yld), (1, .t (.ptr (.agg [waT b x]) 0)), (2, .t (.ptr (.agg [vb back]) 0))], σ := [], k := j }) ?_ ⟨_, Sub.gc [] [11, 10, 0, 1, 2] rfl rfl, rfl⟩ ?_ ?_
  · rintro k st rfl; exact ⟨rfl, rfl⟩
  · rintro j st hj rfl
    have hwj : IntKind.i64.wrap ((j : Int) + 1) = ((j + 1 : Nat) : Int) := by rw [wrap_id (by omega) (by omega)]; omega
    have ws : IntKind.i64.wrap (b.last - (j : Int)) = ((b.L - j : Nat) : Int) := by rw [wrap_id (by omega) (by omega)]; omega
    have hat := hat j hj
    cases back
    all_goals
      simp only [go_sem, Nat.reduceEqDiff, Nat.reduceAdd, Bool.not_true, Bool.not_false, hwj, ws]
      exact ⟨hat, finS_ret (.inr rfl) [] ⟨rfl, rfl, _, rfl⟩, _, Sub.gc [] [11, 10, 0, 1, 2] rfl rfl, rfl⟩
  · rintro st rfl
    simp only [go_sem]
    exact finS_ret (.inl hlen.symm) [] ⟨rfl, rfl, _, rfl⟩
theorem minutes_ok (b : Bo) (back : Bool) (ks : List (Nat × List Int)) (xs : List T) (clk : Nat) : ACall Tryd.prog 60 [waE b 0, .t (vb back)] [.map shQ ks xs clk] (fun o σ' => o = .ret (.fn (.func 87) [] [.vp [waE b 0] 0, .t (.ptr (.agg [vb back]) 0)]) ∧ σ' = [.map shQ ks xs clk]) := by
  refine ACall.walk k60 ?_
  unfold c60
  simp only [go_sem, Nat.reduceEqDiff, Nat.reduceAdd]
  exact finL_ret [0] ⟨rfl, rfl, rfl, rfl, _, rfl, rfl, rfl⟩
/-- A boat's question as it is. -/
def plainQ (b : Bo) (boat : Nat) : Qu := ⟨boat, 0, 0, b.speed.toNat⟩
theorem plain_ok (b : Bo) (hb : b.OK) (x : T) (boat : Nat) : ACall Tryd.prog 76 [.t (waT b x), .t (vi boat)] [] (ret (tQu (plainQ b boat))) := by
  refine ACall.walk k76 ?_
  have hs := hb.speed
  have e : b.speed = ((b.speed.toNat : Nat) : Int) := by omega
  unfold c76 plainQ
  simp only [go_sem, Nat.reduceEqDiff, Nat.reduceAdd, Nat.reduceLeDiff, undef]
  refine finL_ret [] ⟨rfl, rfl, rfl, rfl, _, rfl, res_mk ?_⟩
  show Out.ret (.t (.agg [vi boat, vi 0, vi 0, vi b.speed])) = _
  conv => lhs; rw [e]
  rfl
end Go.Proofs.YtafcdpmcmmfbhaaDoor

/- A boat is followed. -/
namespace Go.Proofs.YtafcdpmcmmfbhaaDoor
open Go Go.Ab

/-- A call that hands back what is new, of what is told less. -/
theorem ACallL.weak1 {P : Program} {f : Nat} {args args0 : List E} {σ : List AO} {R : Lz (Out → List AO → Prop)} {o' : Out} (h : ACall P f args0 [] (res o')) (hv : (E.wks args).map .t = args0) (hk : R.get o' σ) : @ACallL P f args σ R := by
  subst hv
  exact ACall.weak ((h.fresh fun o σ' h => h.2).mono fun o σ' h => by obtain ⟨rfl, rfl, _⟩ := h; exact hk)

/-! ### Calls over a store that holds the memo -/
theorem lend1 {f : Nat} {args0 : List E} {a : AO} {R0 : Out → AO → Prop} (h : ACall Tryd.prog f args0 [a] (fun o σ' => ∃ a', R0 o a' ∧ σ' = [a'])) {m : Nat} {σ : List AO} {b : AO} (hm : σ[m]? = some b) (hb : b = a.ren (lendR [m] σ.length))
    {args : List E} (hargs : args = E.rens (lendR [m] σ.length) args0) {R : Lz (Out → List AO → Prop)}
    (hk : ∀ o a', R0 o a' → R.get (o.ren (lendR [m] σ.length)) (σ.set m (a'.ren (lendR [m] σ.length)))) : @ACallL Tryd.prog f args σ R := by
  have hml := (List.getElem?_eq_some_iff.1 hm).1
  have e0 : lendR [m] σ.length 0 = m := rfl
  refine ACall.mono (ACall.lend [m] h (by simp) (by simpa using hml) rfl (fun j o ho => ?_) hargs) ?_
  · match j, ho with
    | 0, ho => simp at ho; subst ho; rw [e0, hm, hb]
  · rintro o σ1 ⟨o0, σ0, ⟨a', hR, rfl⟩, _, rfl, rfl⟩
    have := hk o0 a' hR
    have hs : lendB σ [m] ([a'].map (AO.ren (lendR [m] σ.length))) = σ.set m (a'.ren (lendR [m] σ.length)) := by
      apply List.ext_getElem?
      intro i
      by_cases hi : i = m
      · subst hi
        rw [lendB_kept (j := 0) (by simp) (by simp) (by simpa using hml) rfl, List.getElem?_set_self hml]
        rfl
      · by_cases hil : i < σ.length
        · rw [lendB_other hil (by simpa using hi), List.getElem?_set_ne (Ne.symm hi)]
        · rw [List.getElem?_eq_none (by rw [lendB_length (by simp)]; simp; omega), List.getElem?_eq_none (by rw [List.length_set]; omega)]
    rw [hs]
    exact this

def heldL (b : Bo) (q : Qu) (l : List Si) (m : Nat) : List Nat := rowM b q.row :: (kept l q.without l.length).map (atM b m)
def andL (x : Nat) (l : List Nat) : Nat := l.foldl (· &&& ·) x
def heldM (b : Bo) (q : Qu) (l : List Si) (m c : Nat) : Nat := andL c (heldL b q l m)
def stepsM (b : Bo) : Nat → Nat → Nat
  | 0, p => p
  | k + 1, p => stepM b (stepsM b k p)
/-- What a minute makes of where the boat can be in each, and of where it can be now. -/
def roundM (b : Bo) (q : Qu) (l : List Si) (st : List Nat × Nat) (m : Nat) : List Nat × Nat :=
  let o := st.1.getD m 0 &&& heldM b q l m st.2
  (st.1.set m o, stepsM b q.speed o)
def minsN (b : Bo) (back : Bool) : List Nat := (List.range (b.L + 1)).map (minN b back)
def passM (b : Bo) (q : Qu) (l : List Si) (back : Bool) (out : List Nat) : List Nat := ((minsN b back).foldl (roundM b q l) (out, allM b)).1
def followM (b : Bo) (q : Qu) (l : List Si) : List Nat := passM b q l true (passM b q l false (List.replicate 13 (allM b)))
/-- The same, of a question. -/
def logQ (b : Bo) (q : Qu) : List Nat := followM b q (b.seen.getD q.boat [])
abbrev tLog (l : List Nat) : T := .agg (l.map fun p : Nat => vu p)
abbrev keyQ (q : Qu) : List Int := [q.boat, q.without, q.row, q.speed]
def quK : List Int → Qu
  | [a, b, c, d] => ⟨a.toNat, b.toNat, c.toNat, d.toNat⟩
  | _ => ⟨0, 0, 0, 0⟩
theorem quK_key (q : Qu) : quK (keyQ q) = q := rfl
def MapOK (b : Bo) (ks : List (Nat × List Int)) (xs : List T) : Prop := ks.length = xs.length ∧ ∀ (i : Nat) e x, ks[i]? = some e → xs[i]? = some x → e.2.length = 4 ∧ x = tLog (logQ b (quK e.2))
theorem MapOK.nil (b : Bo) : MapOK b [] [] := ⟨rfl, fun i e x h => by simp at h⟩
theorem MapOK.find {b : Bo} {ks : List (Nat × List Int)} {xs : List T} (M : MapOK b ks xs) {q : Qu} {i : Nat} (hf : kfind shQ ks (keyQ q) = some i) : xs[i]? = some (tLog (logQ b q)) := by
  unfold kfind at hf
  obtain ⟨hi, hp, _⟩ := List.findIdx?_eq_some_iff_getElem.1 hf
  have hix : i < xs.length := by rw [← M.1]; exact hi
  obtain ⟨e1, e2⟩ := M.2 i ks[i] xs[i] (List.getElem?_eq_getElem hi) (List.getElem?_eq_getElem hix)
  rw [kEq_int rfl rfl e1] at hp
  have := of_decide_eq_true hp
  rw [List.getElem?_eq_getElem hix, e2, ← this]
  rfl
theorem MapOK.new {b : Bo} {ks : List (Nat × List Int)} {xs : List T} (M : MapOK b ks xs) {q : Qu} {clk : Nat} : MapOK b (ks ++ [(clk, keyQ q)]) (xs ++ [tLog (logQ b q)]) := by
  refine ⟨by simp [M.1], fun i e x h1 h2 => ?_⟩
  by_cases hi : i < ks.length
  · rw [List.getElem?_append_left hi] at h1
    rw [List.getElem?_append_left (by rw [← M.1]; exact hi)] at h2
    exact M.2 i e x h1 h2
  · have hlt := (List.getElem?_eq_some_iff.1 h1).1
    simp at hlt
    obtain rfl : i = ks.length := by omega
    rw [List.getElem?_append_right (by omega)] at h1
    rw [M.1, List.getElem?_append_right (by omega)] at h2
    simp at h1 h2
    subst h1 h2
    exact ⟨rfl, rfl⟩
abbrev Memo (b : Bo) (o : AO) : Prop := ∃ ks xs clk, MapOK b ks xs ∧ o = .map shQ ks xs clk
theorem toKeyQ (a b c d : Int) : toKey (some [some .i64, some .i64, some .i64, some .i64], none) (.t (.agg [vi a, vi b, vi c, vi d])) = some [a, b, c, d] := by
  simp [toKey, cellKeys, cellKey]
/-- A question that there can be. -/
structure Qu.OK (b : Bo) (q : Qu) : Prop where
  boat : q.boat < b.seen.length
  without : q.without < 64
  row : q.row ≤ 7
  speed : q.speed ≤ 3

theorem andL_lt {n : Nat} : ∀ (l : List Nat) (x : Nat), x < n → andL x l < n
  | [], x, h => h
  | y :: l, x, h => andL_lt l (x &&& y) (Nat.lt_of_le_of_lt Nat.and_le_left h)
theorem andL_take {l : List Nat} {x j y : Nat} (h : l[j]? = some y) : andL x (l.take (j + 1)) = andL x (l.take j) &&& y := by
  obtain ⟨hk, e⟩ := List.getElem?_eq_some_iff.1 h
  unfold andL
  rw [List.take_succ_eq_append_getElem hk, List.foldl_append, e]
  rfl
theorem stepsM_lt {b : Bo} (hb : b.OK) {p : Nat} (hp : p < B48) : ∀ k, stepsM b k p < B48
  | 0 => hp
  | k + 1 => stepM_lt hb _
theorem heldL_at {b : Bo} {q : Qu} {l : List Si} {m : Nat} : ∀ j, (heldL b q l m)[j + 1]? = ((kept l q.without l.length)[j]?).map (atM b m) := fun j => by unfold heldL; rw [List.getElem?_cons_succ, List.getElem?_map]
theorem heldL_len {b : Bo} {q : Qu} {l : List Si} {m : Nat} : (heldL b q l m).length = (holdsT q.row (kept l q.without l.length)).length := by simp [heldL, holdsT]
theorem heldL_lt {b : Bo} (hb : b.OK) {q : Qu} {l : List Si} {m : Nat} : ∀ x ∈ heldL b q l m, x < B48 := fun x hx => by
  unfold heldL at hx
  rcases List.mem_cons.1 hx with rfl | hx
  · exact rowM_lt hb _
  · obtain ⟨s, _, rfl⟩ := List.mem_map.1 hx
    exact atM_lt hb m s
/-- Behind some minutes. -/
def stM (b : Bo) (q : Qu) (l : List Si) (back : Bool) (out : List Nat) (i : Nat) : List Nat × Nat := ((minsN b back).take i).foldl (roundM b q l) (out, allM b)
theorem stM_succ {b : Bo} {q : Qu} {l : List Si} {back : Bool} {out : List Nat} {i : Nat} (hi : i < b.L + 1) : stM b q l back out (i + 1) = roundM b q l (stM b q l back out i) (minN b back i) := by
  unfold stM
  have h : (minsN b back)[i]? = some (minN b back i) := by unfold minsN; rw [List.getElem?_map, List.getElem?_range hi]; rfl
  obtain ⟨hk, e⟩ := List.getElem?_eq_some_iff.1 h
  rw [List.take_succ_eq_append_getElem hk, List.foldl_append, e]
  rfl
structure StOK (st : List Nat × Nat) : Prop where
  len : st.1.length = 13
  out : ∀ x ∈ st.1, x < B48
  can : st.2 < B48
theorem StOK.round {b : Bo} (hb : b.OK) {q : Qu} {l : List Si} {st : List Nat × Nat} (h : StOK st) (m : Nat) (hm : m < 13) : StOK (roundM b q l st m) := by
  have hml : m < st.1.length := by have := h.len; omega
  have hx : st.1[m]? = some st.1[m] := List.getElem?_eq_getElem hml
  have hg : st.1.getD m 0 = st.1[m] := by rw [List.getD_eq_getElem?_getD, hx]; rfl
  have ho : st.1.getD m 0 &&& heldM b q l m st.2 < B48 := Nat.lt_of_le_of_lt Nat.and_le_left (by rw [hg]; exact h.out _ (List.getElem_mem _))
  refine ⟨by unfold roundM; simpa using h.len, fun x hx => ?_, stepsM_lt hb ho _⟩
  rcases List.mem_or_eq_of_mem_set hx with h1 | h1
  · exact h.out x h1
  · rw [h1]; exact ho
theorem minN_le (b : Bo) (back : Bool) {i : Nat} (hi : i < b.L + 1) : minN b back i ≤ b.L := by unfold minN; split <;> omega
theorem stM_ok {b : Bo} (hb : b.OK) {q : Qu} {l : List Si} {back : Bool} {out : List Nat} (h : StOK (out, allM b)) : ∀ i ≤ b.L + 1, StOK (stM b q l back out i)
  | 0, _ => h
  | i + 1, hi => by
    rw [stM_succ (by omega)]
    exact (stM_ok hb h i (by omega)).round hb _ (by have := minN_le b back (i := i) (by omega); have := hb.L.1; omega)
theorem stM_last (b : Bo) (q : Qu) (l : List Si) (back : Bool) (out : List Nat) : (stM b q l back out (b.L + 1)).1 = passM b q l back out := by
  unfold stM passM
  rw [List.take_of_length_le (by simp [minsN])]
theorem logs_ok {b : Bo} (hb : b.OK) (q : Qu) (l : List Si) : StOK (passM b q l false (List.replicate 13 (allM b)), allM b) ∧ StOK (followM b q l, allM b) := by
  have h0 : StOK (List.replicate 13 (allM b), allM b) := ⟨by simp, fun x hx => by rw [List.eq_of_mem_replicate hx]; exact allM_lt hb, allM_lt hb⟩
  have h1 := stM_ok hb (q := q) (l := l) (back := false) h0 (b.L + 1) (Nat.le_refl _)
  have h2 : StOK (passM b q l false (List.replicate 13 (allM b)), allM b) := by
    rw [← stM_last]
    exact ⟨h1.len, h1.out, allM_lt hb⟩
  have h3 := stM_ok hb (q := q) (l := l) (back := true) h2 (b.L + 1) (Nat.le_refl _)
  refine ⟨h2, ?_⟩
  unfold followM
  rw [← stM_last]
  exact ⟨h3.len, h3.out, allM_lt hb⟩
theorem logQ_len {b : Bo} (hb : b.OK) (q : Qu) : (logQ b q).length = 13 := (logs_ok hb q _).2.len
theorem logQ_lt {b : Bo} (hb : b.OK) (q : Qu) : ∀ x ∈ logQ b q, x < B48 := (logs_ok hb q _).2.out
end Go.Proofs.YtafcdpmcmmfbhaaDoor

/- A boat is followed: the walk. -/
namespace Go.Proofs.YtafcdpmcmmfbhaaDoor
open Go Go.Ab

abbrev waCallR (b : Bo) (o' : Out) : Out → List AO → Prop := fun o σ' => ∃ a', (o = o' ∧ Memo b a') ∧ σ' = [a']
def zer13 : List E := [.t (vu 0), .t (vu 0), .t (vu 0), .t (vu 0), .t (vu 0), .t (vu 0), .t (vu 0), .t (vu 0), .t (vu 0), .t (vu 0), .t (vu 0), .t (vu 0), .t (vu 0)]
theorem zero13 : zeroT (Value.agg #[Value.int IntKind.u64 0, Value.int IntKind.u64 0, Value.int IntKind.u64 0, Value.int IntKind.u64 0, Value.int IntKind.u64 0, Value.int IntKind.u64 0, Value.int IntKind.u64 0, Value.int IntKind.u64 0, Value.int IntKind.u64 0, Value.int IntKind.u64 0, Value.int IntKind.u64 0, Value.int IntKind.u64 0, Value.int IntKind.u64 0]) = .agg [vu 0, vu 0, vu 0, vu 0, vu 0, vu 0, vu 0, vu 0, vu 0, vu 0, vu 0, vu 0, vu 0] := rfl
def FoMid (b : Bo) (q : Qu) (l : List Si) (ks : List (Nat × List Int)) (xs : List T) (clk : Nat) (st : St) : Prop := lk st.env 2 = .ptr 1 0 ∧ lk st.env 3 = .ptr 2 0 ∧ lk st.env 4 = .ptr 3 0 ∧ lk st.env 7 = .ptr 5 0 ∧
  (∃ a : AO, st.σ = [.map shQ ks xs clk, .cells [waE b 0], .cells [.t (vi q.boat), .t (vi q.without), .t (vi q.row), .t (vi q.speed)], .cells zer13, a, .cells [.t (.slice 1 (holdsT q.row (kept l q.without l.length)))]]) ∧ st.df = [] ∧ st.k = 0

def allTo (b : Bo) (j : Nat) : List Nat := List.replicate j (allM b) ++ List.replicate (13 - j) 0
theorem allTo_len (b : Bo) {j : Nat} (hj : j ≤ 13) : (allTo b j).length = 13 := by simp [allTo]; omega
theorem allTo_set (b : Bo) {j : Nat} (hj : j < 13) : (allTo b j).set j (allM b) = allTo b (j + 1) := by
  unfold allTo
  rw [List.set_append_right _ _ (by simp), List.length_replicate, Nat.sub_self, show 13 - j = (13 - (j + 1)) + 1 by omega, List.replicate_succ, List.set_cons_zero, List.replicate_succ', List.append_assoc]
  rfl
theorem spU (l : List Nat) (v : Nat) {j : Nat} (h : j < l.length) : List.take j ((l.map fun z : Nat => vu z).map E.t) ++ [E.t (vu v)] ++ List.drop (j + 1) ((l.map fun z : Nat => vu z).map E.t) = ((l.set j v).map fun z : Nat => vu z).map E.t := by
  rw [List.map_set, List.map_set, List.set_eq_take_append_cons_drop, if_pos (by simpa using h), List.append_assoc]; rfl
def FoMid2 (b : Bo) (q : Qu) (l : List Si) (ks : List (Nat × List Int)) (xs : List T) (clk : Nat) (st : St) : Prop := lk st.env 2 = .vp [waE b 0] 0 ∧ lk st.env 3 = .t (.ptr (tQu q) 0) ∧ lk st.env 4 = .ptr 1 0 ∧ lk st.env 7 = .t (.ptr (.agg [.slice 1 (holdsT q.row (kept l q.without l.length))]) 0) ∧ lk st.env 8 = .ptr 2 0 ∧ lk st.env 10 = .ptr 3 0 ∧
  st.σ = [.map shQ ks xs clk, .cells zer13, .cells (((allTo b 13).map fun p : Nat => vu p).map .t), .cells [.fn (.func 92) [waE b 0] []]] ∧ st.df = [] ∧ st.k = 0

set_option maxRecDepth 8000 in
set_option maxHeartbeats 8000000 in
theorem follow_ok (b : Bo) (hb : b.OK) (q : Qu) (hq : q.OK b) {ks : List (Nat × List Int)} {xs : List T} {clk : Nat} (M : MapOK b ks xs) :
    ACall Tryd.prog 80 [waE b 0, .t (tQu q)] [.map shQ ks xs clk] (waCallR b (.ret (.t (tLog (logQ b q))))) := by
  refine ACall.walk k80 ?_
  have hl : b.seen[q.boat]? = some (b.seen.getD q.boat []) := by rw [List.getD_eq_getElem?_getD, List.getElem?_eq_getElem hq.boat]; rfl
  have hlog : logQ b q = followM b q (b.seen.getD q.boat []) := rfl
  generalize b.seen.getD q.boat [] = l at *
  have h91 := holds_ok b hb .hole q l hl (by have := hq.without; omega)
  unfold c80
  refine awpL_chop 3 (c1 := ?a1) (c2 := ?a2) (fun st => kfind shQ ks (keyQ q) = none ∧ FoMid b q l ks xs clk st) ?hc ?_ ?_
  case hc => simp only [chop]; rfl
  · cases hk2 : kfind shQ ks (keyQ q) with
    | some i =>
      have hx := M.find hk2
      have hlen : (logQ b q).length = 13 := logQ_len hb q
      generalize logQ b q = LQ at *
      have htk : List.take 13 (List.map E.t (List.map (fun p : Nat => vu p) LQ)) = List.map E.t (List.map (fun p : Nat => vu p) LQ) := List.take_of_length_le (by simp [hlen])
      simp only [go_sem, Nat.reduceEqDiff, Nat.reduceAdd, undef, undef, toKeyQ, mapOf?, hk2, hx, List.length_map, hlen, htk, allT_t]
      refine finL_ret [0] ⟨rfl, rfl, rfl, rfl, .t (tLog LQ), ?_, _, ⟨rfl, ks, xs, clk, M, rfl⟩, rfl⟩
      simp only [go_sem, Nat.reduceEqDiff, resV, resEs, lk, List.length_map, hlen, htk, allT_t]
    | none =>
      simp only [go_sem, Nat.reduceEqDiff, Nat.reduceAdd, undef, undef, toKeyQ, mapOf?, hk2, zero13]
      refine ACallL.weak1 h91 rfl ?_
      simp only [go_sem, Nat.reduceEqDiff, Nat.reduceAdd, undef, undef]
      exact ⟨rfl, rfl, rfl, rfl, ⟨_, rfl⟩, rfl, rfl⟩
  rintro ⟨env, σ, df, k⟩ ⟨hk2, q2, q3, q4, q7, ⟨a, hσ⟩, hdf, hk⟩
  simp only at q2 q3 q4 q7 hσ hdf hk
  subst hσ hdf hk
  refine awpL_chop 3 (c1 := ?b1) (c2 := ?b2) (FoMid2 b q l ks xs clk) ?hc2 ?_ ?_
  case hc2 => simp only [chop]; rfl
  · simp only [go_sem, Nat.reduceAdd]
    refine awpL_forC (i := 31) (m := 13) 13 rfl (fun j st => st = { env := [(31, .t (vi j)), (2, .vp [waE b 0] 0), (3, .t (.ptr (tQu q) 0)), (4, .ptr 1 0), (7, .t (.ptr (.agg [.slice 1 (holdsT q.row (kept l q.without l.length))]) 0)), (8, .ptr 2 0)], σ := [.map shQ ks xs clk, .cells zer13, .cells (((allTo b j).map fun p : Nat => vu p).map .t)] }) ?_
      ⟨_, Sub.gc [0, 3, 6] [31, 2, 3, 4, 7, 8] rfl rfl, St.gc_mk (by simp only [List.map_cons, List.map_nil, lk, Nat.reduceEqDiff, reduceIte, q2, q3, q4, q7]; rfl) rfl rfl rfl⟩ ?_ ?_
    · rintro k st rfl; exact rfl
    · rintro j st hj rfl
      have hwj : IntKind.i64.wrap ((j : Int) + 1) = ((j + 1 : Nat) : Int) := by rw [wrap_id (by omega) (by omega)]; omega
      have hjj : (j : Int) < 13 := by omega
      have hjl : (j + 1 ≤ 13) = True := by simp; omega
      have hlen := allTo_len b (j := j) (by omega)
      have hsp := spU (allTo b j) (allM b) (j := j) (by omega)
      rw [allTo_set b hj] at hsp
      generalize allTo b (j + 1) = O2 at *
      generalize allTo b j = O at *
      simp only [go_sem, Nat.reduceEqDiff, Nat.reduceAdd, Nat.reduceLeDiff, undef, undef, hwj, hjj, hjl, Nat.mul_one, List.length_map, hlen, hsp]
      exact ⟨_, Sub.gc [0, 1, 2] [31, 2, 3, 4, 7, 8] rfl rfl, St.gc_mk rfl (by show [AO.map _ _ _ _, AO.cells _, AO.cells ((List.map E.t _).map (E.gc _ _ _))] = _; rw [gc_row]; rfl) rfl rfl⟩
    · rintro st rfl
      simp only [go_sem, Nat.reduceEqDiff, Nat.reduceAdd, undef, undef]
      exact ⟨rfl, rfl, rfl, rfl, rfl, rfl, rfl, rfl, rfl⟩
  clear q2 q3 q4 q7
  rintro ⟨env, σ, df, k⟩ ⟨q2, q3, q4, q7, q8, q10, hσ, hdf, hk⟩
  simp only at q2 q3 q4 q7 q8 q10 hσ hdf hk
  subst hσ hdf hk
  have hS0 : StOK (allTo b 13, allM b) := ⟨by simp [allTo], fun x hx => by
    unfold allTo at hx
    simp only [Nat.sub_self, List.replicate_zero, List.append_nil] at hx
    rw [List.eq_of_mem_replicate hx]; exact allM_lt hb, allM_lt hb⟩
  have hS1 : StOK (passM b q l false (allTo b 13), allM b) := by
    rw [← stM_last]
    have h1 := stM_ok hb (q := q) (l := l) (back := false) hS0 (b.L + 1) (Nat.le_refl _)
    exact ⟨h1.len, h1.out, allM_lt hb⟩
  have hlog2 : logQ b q = passM b q l true (passM b q l false (allTo b 13)) := by rw [hlog]; unfold followM allTo; simp only [Nat.sub_self, List.replicate_zero, List.append_nil]
  let pas : Nat → List Nat := fun j => if j = 0 then allTo b 13 else if j = 1 then passM b q l false (allTo b 13) else passM b q l true (passM b q l false (allTo b 13))
  have hp0 : ∀ j < 2, StOK (pas j, allM b) := fun j hj => by
    have : j = 0 ∨ j = 1 := by omega
    rcases this with rfl | rfl
    · exact hS0
    · exact hS1
  have hp1 : ∀ j < 2, passM b q l (decide (j = 1)) (pas j) = pas (j + 1) := fun j hj => by
    have : j = 0 ∨ j = 1 := by omega
    rcases this with rfl | rfl <;> rfl
  have hp2 : pas 2 = logQ b q := hlog2.symm
  have hp3 : allTo b 13 = pas 0 := rfl
  rw [hp3]
  clear_value pas
  simp only [go_sem, Nat.reduceAdd, Nat.reduceLT]
  refine awpL_for (i := 45) (L := 44) 2 (fun j st => ∃ ks xs clk d, kfind shQ ks (keyQ q) = none ∧ MapOK b ks xs ∧ st = { env := [(45, .t (vi j)), (44, .t (vi 2)), (43, .t (.slice 1 [vb false, vb true])), (2, .vp [waE b 0] 0), (3, .t (.ptr (tQu q) 0)), (4, .ptr 1 0), (7, .t (.ptr (.agg [.slice 1 (holdsT q.row (kept l q.without l.length))]) 0)), (8, .ptr 2 0), (10, .vp [.fn (.func 92) [waE b 0] []] 0)], σ := [.map shQ ks xs clk, .cells zer13, .cells (((pas j).map fun p : Nat => vu p).map .t)], df := List.replicate d .mark }) ?_
    ⟨_, Sub.gc [0, 1, 2] [45, 44, 43, 2, 3, 4, 7, 8, 10] rfl rfl, ks, xs, clk, 0, hk2, M, St.gc_mk (by simp only [List.map_cons, List.map_nil, lk, Nat.reduceEqDiff, reduceIte, q2, q3, q4, q7, q8, q10]; rfl) (by show [AO.map _ _ _ _, AO.cells _, AO.cells ((List.map E.t _).map (E.gc _ _ _))] = _; rw [gc_row]; rfl) rfl rfl⟩ ?_ ?_
  · rintro k st ⟨_, _, _, _, _, _, rfl⟩; exact ⟨rfl, rfl⟩
  · rintro j st hj ⟨ks, xs, clk, d, hk2, M, rfl⟩
    have hwj : IntKind.i64.wrap ((j : Int) + 1) = ((j + 1 : Nat) : Int) := by rw [wrap_id (by omega) (by omega)]; omega
    have hjj : (j : Int) < 2 := by omega
    have hbv : ([vb false, vb true] : List T)[j]? = some (vb (decide (j = 1))) := by
      have : j = 0 ∨ j = 1 := by omega
      rcases this with rfl | rfl <;> rfl
    have hS := hp0 j hj
    have hP := hp1 j hj
    generalize decide (j = 1) = back at *
    have hgen := fun x => minutes_gen b hb x back
    simp only [go_sem, Nat.reduceEqDiff, Nat.reduceAdd, Nat.reduceLeDiff, undef, undef, hbv, Option.map_some]
    refine lend1 (m := 0) ((minutes_ok b back ks xs clk).mono fun o σ' h => (⟨_, ⟨h.1, rfl⟩, h.2⟩ : ∃ a', (o = _ ∧ a' = AO.map shQ ks xs clk) ∧ σ' = [a'])) rfl rfl (by simp [E.rens, E.ren]; rfl) ?_
    rintro o a' ⟨rfl, rfl⟩
    simp only [go_sem, Nat.reduceAdd, Out.ren, E.ren, E.rens, AO.ren]
    refine awpL_gcpS (Sub.wk 55) ?_
    simp only [go_sem, Nat.reduceEqDiff, E.wk, E.wks]
    refine awpL_rangeS (f := 87) (fs := []) (cs := [.ptr (.agg [waT b .hole]) 0, .ptr (.agg [vb back]) 0]) (minL b back) (fun i σ => σ = [.map shQ ks xs clk, .cells zer13, .cells (((stM b q l back (pas j) i).1.map fun p : Nat => vu p).map .t), .cells [.t (vu ((stM b q l back (pas j) i).2 : Nat))]]) (fun _ _ => False) [0, 1, 2, 3] [45, 44, 43, 2, 3, 4, 7, 8, 10, 13]
      [(45, .t (vi j)), (44, .t (vi 2)), (43, .t (.slice 1 [vb false, vb true])), (2, .vp [waE b 0] 0), (3, .t (.ptr (tQu q) 0)), (4, .ptr 1 0), (7, .t (.ptr (.agg [.slice 1 (holdsT q.row (kept l q.without l.length))]) 0)), (8, .ptr 2 0), (10, .vp [.fn (.func 92) [waE b 0] []] 0), (13, .ptr 3 0)] (List.replicate d .mark) rfl (by simp [St.gc, Df.gc]) rfl rfl (hgen .hole) rfl rfl (by
        show [AO.map _ _ _ _, AO.cells _, AO.cells ((List.map E.t _).map (E.gc _ _ _)), AO.cells _] = _
        rw [gc_row]
        rfl) ?_ ?_ (fun _ _ h => h.elim)
    · rintro lp i v σ hv rfl
      have hil : i < b.L + 1 := by have := (List.getElem?_eq_some_iff.1 hv).1; rw [minL_len] at this; exact this
      rw [minL_at b back hil] at hv
      cases hv
      have hm := minN_le b back hil
      have hL12 := hb.L.1
      have hst := stM_ok hb hS (q := q) (l := l) (back := back) i (by omega)
      have hsucc := stM_succ (b := b) (q := q) (l := l) (back := back) (out := pas j) hil
      rw [hsucc]
      generalize minN b back i = m at *
      generalize stM b q l back (pas j) i = stt at *
      obtain ⟨out, can⟩ := stt
      obtain ⟨hol, hob, hcan⟩ := hst
      simp only at hol hob hcan
      have hH := heldL_lt hb (q := q) (l := l) (m := m)
      have hHl : (heldL b q l m).length = (holdsT q.row (kept l q.without l.length)).length := heldL_len
      have hH0 : (heldL b q l m)[0]? = some (rowM b q.row) := rfl
      have hHs := fun n => heldL_at (b := b) (q := q) (l := l) (m := m) n
      have hT0 : (holdsT q.row (kept l q.without l.length))[0]? = some (.iface 131 (rowsT q.row)) := rfl
      have hTs : ∀ n, (holdsT q.row (kept l q.without l.length))[n + 1]? = ((kept l q.without l.length)[n]?).map tHold := fun n => by unfold holdsT; rw [List.getElem?_cons_succ, List.getElem?_map]
      have hKs : ∀ s ∈ kept l q.without l.length, s.OK b := fun s hs => by
        obtain ⟨_, _, _, h⟩ := kept_mem.1 hs
        exact hb.si (List.mem_of_getElem? hl) (List.mem_of_getElem? h)
      have hrd : roundM b q l (out, can) m = (out.set m (out.getD m 0 &&& andL can (heldL b q l m)), stepsM b q.speed (out.getD m 0 &&& andL can (heldL b q l m))) := rfl
      rw [hrd]
      have hKl : (kept l q.without l.length).length ≤ 5 := Nat.le_trans (List.length_filterMap_le _ _) (by simpa using hb.lens l (List.mem_of_getElem? hl))
      have hTl : (holdsT q.row (kept l q.without l.length)).length = (kept l q.without l.length).length + 1 := by simp [holdsT]
      generalize kept l q.without l.length = K at *
      generalize heldL b q l m = HL at *
      generalize holdsT q.row K = H at *
      simp only [T.ofV, go_sem, Nat.reduceEqDiff, Nat.reduceAdd]
      refine awpL_for (i := 59) (L := 58) H.length (fun n st => st = { env := [(59, .t (vi n)), (58, .t (vi H.length)), (57, .t (.slice 1 H)), (2, .vp [waE b 0] 0), (3, .t (.ptr (tQu q) 0)), (8, .ptr 2 0), (10, .vp [.fn (.func 92) [waE b 0] []] 0), (13, .ptr 3 0), (14, .t (vi m))], σ := [.map shQ ks xs clk, .cells zer13, .cells ((out.map fun p : Nat => vu p).map .t), .cells [.t (vu (andL can (HL.take n) : Nat))]] }) ?_
        ⟨_, Sub.gc [0, 1, 2, 3] [59, 58, 57, 2, 3, 8, 10, 13, 14] rfl rfl, St.gc_mk rfl (by show [AO.map _ _ _ _, AO.cells _, AO.cells ((List.map E.t _).map (E.gc _ _ _)), AO.cells _] = _; rw [gc_row]; rfl) rfl rfl⟩ ?_ ?_
      · rintro k st rfl; exact ⟨rfl, rfl⟩
      · rintro n st hn rfl
        have hwn : IntKind.i64.wrap ((n : Int) + 1) = ((n + 1 : Nat) : Int) := by rw [wrap_id (by omega) (by omega)]; omega
        have hnn : (n : Int) < H.length := by omega
        have hx : HL[n]? = some HL[n] := List.getElem?_eq_getElem (by omega)
        have hy := hH _ (List.getElem_mem (show n < HL.length by omega))
        have hta := andL_take (x := can) hx
        have hal : andL can (HL.take n) < 281474976710656 := andL_lt _ _ hcan
        generalize HL[n] = y at *
        have hy' : y < 281474976710656 := hy
        have o1 := ubits_and (a := andL can (HL.take n)) (b := y) (by omega) (by omega)
        rw [← hta] at o1
        generalize andL can (HL.take (n + 1)) = A1 at *
        generalize andL can (HL.take n) = A0 at *
        cases n with
        | zero =>
          rw [hH0] at hx
          cases hx
          have hcall := atRows_ok b hb (.map shQ ks xs clk) q.row hq.row m
          simp only [go_sem, Nat.reduceEqDiff, Int.reduceLE, hT0, Option.map_some, mfind]
          refine ACallL.quiet1 hcall rfl rfl rfl ?_
          simp only [go_sem, Nat.reduceEqDiff, Int.reduceAdd, undef, undef, Option.map_some, o1]
          exact ⟨_, Sub.gc [0, 1, 2, 3] [59, 58, 57, 2, 3, 8, 10, 13, 14] rfl rfl, St.gc_mk rfl (by show [AO.map _ _ _ _, AO.cells _, AO.cells ((List.map E.t _).map (E.gc _ _ _)), AO.cells _] = _; rw [gc_row]; rfl) rfl rfl⟩
        | succ n =>
          have hk : K[n]? = some K[n] := List.getElem?_eq_getElem (by omega)
          have hso := hKs _ (List.getElem_mem (show n < K.length by omega))
          have hTn := hTs n
          rw [hHs n, hk, Option.map_some] at hx
          rw [hk, Option.map_some] at hTn
          generalize K[n] = s at *
          cases hx
          have hcall := atSi_ok b hb (.map shQ ks xs clk) s hso m
          simp only [tHold] at hTn
          simp only [go_sem, Nat.reduceEqDiff, hTn, Option.map_some, mfind]
          refine ACallL.quiet1 hcall rfl rfl rfl ?_
          simp only [go_sem, Nat.reduceEqDiff, undef, undef, Option.map_some, hwn, o1]
          exact ⟨_, Sub.gc [0, 1, 2, 3] [59, 58, 57, 2, 3, 8, 10, 13, 14] rfl rfl, St.gc_mk rfl (by show [AO.map _ _ _ _, AO.cells _, AO.cells ((List.map E.t _).map (E.gc _ _ _)), AO.cells _] = _; rw [gc_row]; rfl) rfl rfl⟩
      · rintro st rfl
        rw [← hHl, List.take_length]
        have hcl : andL can HL < B48 := andL_lt _ _ hcan
        generalize andL can HL = c at *
        have hml : m < out.length := by omega
        have hom : out[m]? = some (out.getD m 0) := by rw [List.getD_eq_getElem?_getD, List.getElem?_eq_getElem hml]; rfl
        have hob' := hob _ (List.mem_of_getElem? hom)
        generalize out.getD m 0 = z at *
        have hz : z < 281474976710656 := hob'
        have hc : c < 281474976710656 := hcl
        have o1 := ubits_and (a := z) (b := c) (by omega) (by omega)
        have hol2 : z &&& c < B48 := Nat.lt_of_le_of_lt Nat.and_le_left hob'
        generalize z &&& c = o at *
        have hsp := spU out o hml
        have hset : (out.set m o)[m]? = some o := List.getElem?_set_self hml
        have hsl : (out.set m o).length = 13 := by simp [hol]
        generalize out.set m o = out2 at *
        have hm13 : (m : Int) < 13 := by omega
        have hm13' : (m + 1 ≤ 13) = True := by simp; omega
        simp only [go_sem, Nat.reduceEqDiff, Nat.reduceAdd, undef, undef, hm13, hm13', List.length_map, List.getElem?_map, hom, Option.map_some, Nat.mul_one, o1, hol, hsp, hset, hsl]
        refine awpL_for (i := 81) (L := 80) q.speed (fun n st => st = { env := [(81, .t (vi n)), (80, .t (vi q.speed)), (10, .vp [.fn (.func 92) [waE b 0] []] 0), (13, .ptr 3 0)], σ := [.map shQ ks xs clk, .cells zer13, .cells ((out2.map fun p : Nat => vu p).map .t), .cells [.t (vu (stepsM b n o : Nat))]] }) ?_
          ⟨_, Sub.gc [0, 1, 2, 3] [81, 80, 10, 13] rfl rfl, St.gc_mk rfl (by show [AO.map _ _ _ _, AO.cells _, AO.cells ((List.map E.t _).map (E.gc _ _ _)), AO.cells _] = _; rw [gc_row]; rfl) rfl rfl⟩ ?_ ?_
        · rintro k st rfl; exact ⟨rfl, rfl⟩
        · rintro n st hn rfl
          have hwn : IntKind.i64.wrap ((n : Int) + 1) = ((n + 1 : Nat) : Int) := by rw [wrap_id (by have := hq.speed; omega) (by have := hq.speed; omega)]; omega
          have hcall := step_ok b hb (.map shQ ks xs clk) (stepsM b n o) (stepsM_lt hb hol2 n)
          have hss : stepsM b (n + 1) o = stepM b (stepsM b n o) := rfl
          rw [← hss] at hcall
          simp only [go_sem, Nat.reduceEqDiff]
          refine ACallL.quiet1 hcall rfl rfl rfl ?_
          simp only [go_sem, Nat.reduceEqDiff, undef, undef, hwn]
          exact ⟨_, Sub.gc [0, 1, 2, 3] [81, 80, 10, 13] rfl rfl, St.gc_mk rfl (by show [AO.map _ _ _ _, AO.cells _, AO.cells ((List.map E.t _).map (E.gc _ _ _)), AO.cells _] = _; rw [gc_row]; rfl) rfl rfl⟩
        · rintro st rfl
          simp only [go_sem, Nat.reduceEqDiff, Nat.reduceAdd]
          refine ⟨[0, 1, 2, 3], rfl, rfl, ?_⟩
          show [AO.map _ _ _ _, AO.cells _, AO.cells ((List.map E.t _).map (E.gc _ _ _)), AO.cells _] = _
          rw [gc_row]
          rfl
    · rintro σ rfl
      rw [minL_len, stM_last, hP]
      simp only [go_sem, Nat.reduceEqDiff, hwj]
      refine ⟨_, Sub.gc [0, 1, 2] [45, 44, 43, 2, 3, 4, 7, 8, 10] rfl rfl, ks, xs, clk, d + 1, hk2, M, ?_⟩
      exact St.gc_mk rfl (by show [AO.map _ _ _ _, AO.cells _, AO.cells ((List.map E.t _).map (E.gc _ _ _))] = _; rw [gc_row]; rfl) (by simp [Df.gc, List.replicate_succ]) rfl
  · rintro st ⟨ks, xs, clk, d, hk2, M, rfl⟩
    have M2 := M.new (q := q) (clk := clk)
    have hlen := logQ_len hb q
    rw [hp2]
    generalize logQ b q = LQ at *
    have htk : List.take 13 (List.map E.t (List.map (fun p : Nat => vu p) LQ)) = List.map E.t (List.map (fun p : Nat => vu p) LQ) := List.take_of_length_le (by simp [hlen])
    have hdr : List.drop 13 zer13 = [] := rfl
    have hz13 : (13 ≤ zer13.length) = True := by simp [zer13]
    simp only [go_sem, Nat.reduceEqDiff, Nat.reduceAdd, undef, undef, toKeyQ, hk2, List.length_map, hlen, htk, allT_t, hdr, hz13]
    refine finL_ret [0] ⟨by simp, rfl, rfl, rfl, .t (tLog LQ), ?_, _, ⟨rfl, _, _, _, M2, rfl⟩, rfl⟩
    simp only [go_sem, Nat.reduceEqDiff, resV, resEs, lk, List.length_map, hlen, htk, allT_t]
end Go.Proofs.YtafcdpmcmmfbhaaDoor

/- Can there be a truth; where a boat can be; its rows; what is tried. -/
namespace Go.Proofs.YtafcdpmcmmfbhaaDoor
open Go Go.Ab

def canQ (b : Bo) (q : Qu) : Bool := !((logQ b q).getD 0 0 == 0)
theorem int_ne0 (n : Nat) : (((n : Nat) : Int) != 0) = !(n == 0) := by
  rw [Bool.eq_iff_iff, bne_iff_ne]
  simp
theorem log_at {b : Bo} (hb : b.OK) (q : Qu) {m : Nat} (hm : m < 13) : (logQ b q)[m]? = some ((logQ b q).getD m 0) := by
  rw [List.getD_eq_getElem?_getD, List.getElem?_eq_getElem (by rw [logQ_len hb]; exact hm)]; rfl

set_option maxRecDepth 8000 in
theorem can_ok (b : Bo) (hb : b.OK) (q : Qu) (hq : q.OK b) {ks : List (Nat × List Int)} {xs : List T} {clk : Nat} (M : MapOK b ks xs) :
    ACall Tryd.prog 72 [waE b 0, .t (tQu q)] [.map shQ ks xs clk] (waCallR b (.ret (.t (vb (canQ b q))))) := by
  refine ACall.walk k72 ?_
  have h80 := follow_ok b hb q hq M (clk := clk)
  have hat := log_at hb q (m := 0) (by decide)
  have hc : canQ b q = !((logQ b q).getD 0 0 == 0) := rfl
  have hlen := logQ_len hb q
  rw [← int_ne0] at hc
  generalize canQ b q = c at *
  subst hc
  generalize logQ b q = LQ at *
  generalize LQ.getD 0 0 = z at *
  unfold c72
  simp only [go_sem, Nat.reduceEqDiff, Nat.reduceAdd]
  refine lend1 (m := 0) h80 rfl rfl rfl ?_
  rintro o a ⟨rfl, ks2, xs2, clk2, M2, rfl⟩
  simp only [go_sem, Nat.reduceEqDiff, Nat.reduceMul, Nat.reduceLeDiff, Int.reduceLT, Int.reduceLE, Out.ren, E.ren, AO.ren, List.length_map, hlen, List.getElem?_map, hat, Option.map_some]
  exact finL_ret [0] ⟨rfl, rfl, rfl, rfl, _, rfl, _, ⟨rfl, ks2, xs2, clk2, M2, rfl⟩, rfl⟩

theorem plainQ_ok {b : Bo} (hb : b.OK) {boat : Nat} (h : boat < b.seen.length) : (plainQ b boat).OK b := ⟨h, Nat.zero_lt_succ 63, Nat.zero_le 7, by have := hb.speed; unfold plainQ; simp only; omega⟩
abbrev toldO (b : Bo) (boat : Nat) : Out := if canQ b (plainQ b boat) then .ret (.t (tLog (logQ b (plainQ b boat)))) else .pan (rfs 10)

set_option maxRecDepth 8000 in
set_option maxHeartbeats 4000000 in
theorem told_ok (b : Bo) (hb : b.OK) (boat : Nat) (hbo : boat < b.seen.length) {ks : List (Nat × List Int)} {xs : List T} {clk : Nat} (M : MapOK b ks xs) :
    ACall Tryd.prog 52 [waE b 0, .t (vi boat)] [.map shQ ks xs clk] (waCallR b (toldO b boat)) := by
  refine ACall.walk k52 ?_
  have hq := plainQ_ok hb hbo
  have h76 := plain_ok b hb .hole boat
  have h72 := fun {ks : List (Nat × List Int)} {xs : List T} {clk : Nat} (M : MapOK b ks xs) => can_ok b hb (plainQ b boat) hq M (clk := clk)
  have h80 := fun {ks : List (Nat × List Int)} {xs : List T} {clk : Nat} (M : MapOK b ks xs) => follow_ok b hb (plainQ b boat) hq M (clk := clk)
  have hlen := logQ_len hb (plainQ b boat)
  unfold toldO
  generalize plainQ b boat = q at *
  generalize canQ b q = c at *
  generalize logQ b q = LQ at *
  unfold c52
  simp only [go_sem, Nat.reduceEqDiff]
  refine ACallL.weak1 h76 rfl ?_
  simp only [go_sem, Nat.reduceEqDiff]
  refine lend1 (m := 0) (h72 M) rfl rfl rfl ?_
  rintro o a ⟨rfl, ks2, xs2, clk2, M2, rfl⟩
  simp only [go_sem, Nat.reduceEqDiff, Out.ren, E.ren, AO.ren]
  refine ACallL.quiet1 (ask_ok c 10) rfl rfl (by simp only [askO]; split <;> rfl) ?_
  cases c
  · simp only [askO, go_sem, Nat.reduceEqDiff]
    exact finL_pan [0] ⟨rfl, rfl, rfl, rfl, _, ⟨rfl, ks2, xs2, clk2, M2, rfl⟩, rfl⟩
  simp only [askO, go_sem, Nat.reduceEqDiff]
  refine ACallL.weak1 h76 rfl ?_
  simp only [go_sem, Nat.reduceEqDiff]
  refine lend1 (m := 0) (h80 M2) rfl rfl rfl ?_
  rintro o a ⟨rfl, ks3, xs3, clk3, M3, rfl⟩
  have htk : List.take 13 (List.map E.t (List.map (fun p : Nat => vu p) LQ)) = List.map E.t (List.map (fun p : Nat => vu p) LQ) := List.take_of_length_le (by simp [hlen])
  have hdr : List.drop 13 (List.map E.t (List.map (fun p : Nat => vu p) LQ)) = [] := List.drop_eq_nil_of_le (by simp [hlen])
  simp only [go_sem, Nat.reduceEqDiff, Nat.reduceAdd, undef, undef, Out.ren, E.ren, AO.ren, List.length_map, hlen]
  refine finL_ret [0] ⟨rfl, rfl, rfl, rfl, .t (tLog LQ), ?_, _, ⟨rfl, ks3, xs3, clk3, M3, rfl⟩, rfl⟩
  simp only [go_sem, Nat.reduceEqDiff, resV, resEs, lk, List.length_map, hlen, htk, allT_t]

/-! ### The rows of places -/
def tzN (p : Nat) : Nat := ((List.range 48).find? (p.testBit ·)).getD 48
theorem tzN_spec {p : Nat} (hp : p < B48) (h0 : p ≠ 0) : p.testBit (tzN p) = true ∧ (∀ i < tzN p, p.testBit i = false) ∧ tzN p < 48 := by
  unfold tzN
  cases hf : (List.range 48).find? (p.testBit ·) with
  | some k =>
    obtain ⟨h1, i, hi, h2⟩ := List.find?_eq_some_iff_getElem.1 hf
    simp only [List.length_range] at hi
    obtain ⟨e, h3⟩ := h2
    rw [List.getElem_range] at e
    subst e
    refine ⟨h1, fun j hj => ?_, hi⟩
    have := h3 j hj
    rw [List.getElem_range] at this
    simpa using this
  | none =>
    exfalso
    apply h0
    apply Nat.eq_of_testBit_eq
    intro i
    rw [Nat.zero_testBit]
    by_cases c : i < 48
    · have := List.find?_eq_none.1 hf i (List.mem_range.2 c)
      simpa using this
    · exact Nat.testBit_lt_two_pow (Nat.lt_of_lt_of_le (show p < 2 ^ 48 from hp) (Nat.pow_le_pow_right (by decide) (by omega)))
/-- The least and the greatest row. -/
def loR (b : Bo) (p : Nat) : Nat := tzN p / b.W
def hiR (b : Bo) (p : Nat) : Nat := (blen p - 1) / b.W
def spanS (b : Bo) (p : Nat) : Sp := ((loR b p : Nat), (hiR b p : Nat))
theorem blen_le {p : Nat} (hp : p < B48) : blen p ≤ 48 := by
  unfold blen
  split
  · omega
  · rename_i h0
    have h1 := Nat.log2_self_le h0
    have : p.log2 < 48 := by
      apply Classical.byContradiction
      intro c
      have h2 : 2 ^ 48 ≤ 2 ^ p.log2 := Nat.pow_le_pow_right (by decide) (by omega)
      have hp' : p < 2 ^ 48 := hp
      omega
    omega
theorem span_ok (b : Bo) (hb : b.OK) (x : T) (p : Nat) (hp : p < B48) (h0 : p ≠ 0) : ACall Tryd.prog 55 [.t (waT b x), .t (vu p)] [] (ret (tSp (spanS b p))) := by
  refine ACall.walk k55 ?_
  obtain ⟨t1, t2, t3⟩ := tzN_spec hp h0
  have h81 := tz64_ok p (tzN p) hp t1 t2
  have h82 := len64_ok p hp
  have hbl := blen_le hp
  have hbl1 : 1 ≤ blen p := by unfold blen; rw [if_neg h0]; omega
  obtain ⟨w1, w2, w3⟩ := hb.W
  have n0 : ¬ (b.wide = 0) := by omega
  have e1 : IntKind.i64.wrap ((tzN p : Int).tdiv b.wide) = ((loR b p : Nat) : Int) := by
    have := Nat.div_le_self (tzN p) b.W
    rw [w3, Int.tdiv_eq_ediv_of_nonneg (by omega), ← Int.natCast_ediv]
    unfold loR
    generalize tzN p / b.W = y at *
    exact wrap_id (by omega) (by omega)
  have wa : IntKind.i64.wrap ((blen p : Int) - 1) = ((blen p - 1 : Nat) : Int) := by rw [wrap_id (by omega) (by omega)]; omega
  have e2 : IntKind.i64.wrap (((blen p - 1 : Nat) : Int).tdiv b.wide) = ((hiR b p : Nat) : Int) := by
    have := Nat.div_le_self (blen p - 1) b.W
    rw [w3, Int.tdiv_eq_ediv_of_nonneg (by omega), ← Int.natCast_ediv]
    unfold hiR
    generalize (blen p - 1) / b.W = y at *
    exact wrap_id (by omega) (by omega)
  unfold spanS
  unfold c55
  simp only [go_sem, Nat.reduceEqDiff]
  refine ACallL.fresh1 h81 rfl ?_
  simp only [go_sem, Nat.reduceEqDiff, e1, n0]
  refine ACallL.fresh1 h82 rfl ?_
  simp only [go_sem, Nat.reduceEqDiff, Nat.reduceAdd, Nat.reduceLeDiff, undef, undef, n0, wa, e2]
  exact finL_ret [] ⟨rfl, rfl, rfl, rfl, _, rfl, res_mk rfl⟩

/-! ### What is tried -/
def firstO (r : Option Nat) : Out := match r with
  | some n => .ret (.tup [.t (vi n), .t (vb true)])
  | none => .ret (.tup [.t (vi 0), .t (vb false)])
set_option maxRecDepth 8000 in
set_option maxHeartbeats 4000000 in
theorem first_ok (b : Bo) (fc : Nat) (P : Nat → Bool) (ns : List Nat) (hl : ns.length < 100) (c2 : T)
    (hf : ∀ n ∈ ns, ∀ {ks : List (Nat × List Int)} {xs : List T} {clk : Nat}, MapOK b ks xs → ACall Tryd.prog fc [.t (vi n), .vp [waE b 0] 0, .t c2] [.map shQ ks xs clk] (waCallR b (.ret (.t (vb (P n))))))
    {ks : List (Nat × List Int)} {xs : List T} {clk : Nat} (M : MapOK b ks xs) :
    ACall Tryd.prog 69 [.t (.slice 1 (ns.map fun z : Nat => vi z)), .agg [.fn (.func fc) [] [.vp [waE b 0] 0, .t c2]]] [.map shQ ks xs clk] (waCallR b (firstO (ns.find? P))) := by
  refine ACall.walk k69 ?_
  unfold c69
  simp only [go_sem, Nat.reduceEqDiff, List.length_map]
  refine awpL_for (i := 10) (L := 9) ns.length (fun j st => (∀ n ∈ ns.take j, P n = false) ∧ ∃ ks xs clk, MapOK b ks xs ∧ st = { env := [(10, .t (vi j)), (9, .t (vi ns.length)), (8, .t (.slice 1 (ns.map fun z : Nat => vi z))), (3, .vp [.fn (.func fc) [] [.vp [waE b 0] 0, .t c2]] 0), (4, .t (vi 0)), (5, .t (vb false))], σ := [.map shQ ks xs clk] }) ?_
    ⟨_, Sub.gc [0] [10, 9, 8, 3, 4, 5] rfl rfl, by simp, ks, xs, clk, M, rfl⟩ ?_ ?_
  · rintro k st ⟨_, _, _, _, _, rfl⟩; exact ⟨rfl, rfl⟩
  · rintro j st hj ⟨hno, ks, xs, clk, M, rfl⟩
    have hwj : IntKind.i64.wrap ((j : Int) + 1) = ((j + 1 : Nat) : Int) := by rw [wrap_id (by omega) (by omega)]; omega
    have hx : ns[j]? = some ns[j] := List.getElem?_eq_getElem hj
    have hjj : (j : Int) < ns.length := by omega
    have tx : ns.take (j + 1) = ns.take j ++ [ns[j]] := by rw [List.take_add_one, hx]; rfl
    have hf := hf _ (List.getElem_mem hj) M (clk := clk)
    have hfind : P ns[j] = true → ns.find? P = some ns[j] := fun h => by
      rw [List.find?_eq_some_iff_getElem]
      refine ⟨h, j, hj, rfl, fun i hi => ?_⟩
      have := hno ns[i] (by rw [List.mem_take_iff_getElem]; exact ⟨i, by omega, rfl⟩)
      rw [this]; rfl
    generalize ns[j] = n at *
    simp only [go_sem, Nat.reduceEqDiff, List.getElem?_map, hx, Option.map_some]
    refine lend1 (m := 0) hf rfl rfl rfl ?_
    rintro o a ⟨rfl, ks2, xs2, clk2, M2, rfl⟩
    cases hb : P n
    · simp only [go_sem, Nat.reduceEqDiff, Out.ren, E.ren, AO.ren, hwj]
      refine ⟨_, Sub.gc [0] [10, 9, 8, 3, 4, 5] rfl rfl, fun i hi => ?_, ks2, xs2, clk2, M2, rfl⟩
      rw [tx] at hi
      rcases List.mem_append.1 hi with h | h
      · exact hno i h
      · simp at h; subst h; exact hb
    · rw [hfind hb]
      simp only [go_sem, Nat.reduceEqDiff, Out.ren, E.ren, AO.ren]
      exact finL_ret [0] ⟨rfl, rfl, rfl, rfl, _, rfl, _, ⟨rfl, ks2, xs2, clk2, M2, rfl⟩, rfl⟩
  · rintro st ⟨hno, ks, xs, clk, M, rfl⟩
    rw [List.take_length] at hno
    have hfind : ns.find? P = none := List.find?_eq_none.2 fun n hn => by rw [hno n hn]; simp
    rw [hfind]
    simp only [go_sem, Nat.reduceEqDiff]
    exact finL_ret [0] ⟨rfl, rfl, rfl, rfl, _, rfl, _, ⟨rfl, ks, xs, clk, M, rfl⟩, rfl⟩
end Go.Proofs.YtafcdpmcmmfbhaaDoor
