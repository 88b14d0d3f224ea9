/- Proved here: laws that the statements need (SuX2, SuX3). No conditions but those that each law states. -/
import Derived.Test.YtmahocdmkpigjaaDoorSK
import Derived.Test.YtmahocdmkpigjaaDoorSD
import Derived.Test.YtmahocdmkpigjaaDoorSE

set_option linter.unusedSimpArgs false
set_option linter.unusedVariables false

/- SurfSave: whether a list is right: the counts of hours, in a map. -/
namespace Go.Proofs.YtmahocdmkpigjaaDoor
open Go Go.Ab

/-! ### Counts in a map -/
structure CntOK (m : List ME) (clk : Nat) (l : List Int) : Prop where
  wf : MWF ((none, some IntKind.i64) : Sh) m clk
  at' : ∀ h : Int, 0 ≤ h → mget m [h] = if l.count h = 0 then none else some (vi (l.count h))
theorem CntOK.nil : CntOK [] 0 [] := ⟨MWF.nil rfl, fun h _ => rfl⟩
theorem CntOK.neg {m : List ME} {clk : Nat} {l : List Int} (h : CntOK m clk l) {k : Int} (hk : k < 0) : CntOK m clk (l ++ [k]) :=
  ⟨h.wf, fun x hx => by
    have : (l ++ [k]).count x = l.count x := by
      rw [List.count_append, List.count_eq_zero (l := [k]).2 (by rw [List.mem_singleton]; omega)]; rfl
    rw [this]; exact h.at' x hx⟩
theorem mupd_cons (e : ME) (m : List ME) (clk : Nat) (key : List Int) (v : T) : mupd (e :: m) clk key v = if key = e.2.1 then (e.1, e.2.1, v) :: m else e :: mupd m clk key v := by
  unfold mupd
  rw [List.findIdx?_cons]
  by_cases h : key = e.2.1
  · simp [h]
  · simp only [h, decide_false, if_false]
    cases m.findIdx? fun e => decide (key = e.2.1) <;> simp
theorem mget_cons (e : ME) (m : List ME) (key : List Int) : mget (e :: m) key = if key = e.2.1 then some e.2.2 else mget m key := by
  unfold mget
  rw [List.find?_cons]
  by_cases h : key = e.2.1 <;> simp [h]
theorem mget_mupd (clk : Nat) (key key' : List Int) (v : T) : ∀ m : List ME, mget (mupd m clk key v) key' = if key' = key then some v else mget m key'
  | [] => by
    show mget [(clk, key, v)] key' = _
    rw [mget_cons]
  | e :: m => by
    rw [mupd_cons, mget_cons]
    by_cases h : key = e.2.1
    · rw [if_pos h, mget_cons, ← h]
      simp only
      by_cases c : key' = key <;> simp [c]
    · rw [if_neg h, mget_cons, mget_mupd clk key key' v m]
      by_cases c : key' = e.2.1
      · have : ¬ key' = key := fun e' => h (e'.symm.trans c)
        simp [c, this]
        intro e'; exact absurd e'.symm h
      · simp [c]
theorem CntOK.look {m : List ME} {clk : Nat} {l : List Int} (h : CntOK m clk l) {k : Int} (hk : 0 ≤ k) : (kfind ((none, some IntKind.i64) : Sh) (mks m) [k] = none ∧ l.count k = 0) ∨ ∃ i, kfind ((none, some IntKind.i64) : Sh) (mks m) [k] = some i ∧ (mvs m)[i]? = some (vi (l.count k)) ∧ l.count k ≠ 0 := by
  have ha := h.at' k hk
  rw [kfind_int h.wf.ints rfl h.wf.lens]
  rw [mget_eq] at ha
  cases hf : m.findIdx? fun e => decide ([k] = e.2.1) with
  | none =>
    rw [hf] at ha
    refine .inl ⟨rfl, ?_⟩
    apply Classical.byContradiction
    intro c
    rw [if_neg c] at ha
    cases ha
  | some i =>
    rw [hf] at ha
    have hi : i < m.length := (List.findIdx?_eq_some_iff_getElem.1 hf).1
    simp only [Option.bind_some] at ha
    refine .inr ⟨i, rfl, ?_⟩
    split at ha
    · rw [mvs_get, List.getElem?_eq_getElem hi] at ha; cases ha
    · rename_i c; exact ⟨ha, c⟩
theorem CntOK.put {m : List ME} {clk : Nat} {l : List Int} (h : CntOK m clk l) {k : Int} (hk : 0 ≤ k) : CntOK (mupd m clk [k] (vi ((l.count k : Nat) + 1 : Int))) (mclk m clk [k]) (l ++ [k]) := by
  refine ⟨mupd_wf h.wf rfl _, fun x hx => ?_⟩
  rw [mget_mupd]
  by_cases c : x = k
  · subst c
    rw [if_pos rfl, List.count_append, List.count_singleton_self, if_neg (by omega)]
    rfl
  · rw [if_neg (by simpa using c), h.at' x hx, List.count_append, List.count_eq_zero (l := [k]).2 (by simpa using c), Nat.add_zero]
theorem CntOK.put_none {m : List ME} {clk : Nat} {l : List Int} (h : CntOK m clk l) {k : Int} (v : T) (hf : kfind ((none, some IntKind.i64) : Sh) (mks m) [k] = none) : AO.map ((none, some IntKind.i64) : Sh) (mks m ++ [(clk, [k])]) (mvs m ++ [v]) (clk + 1) = AO.map ((none, some IntKind.i64) : Sh) (mks (mupd m clk [k] v)) (mvs (mupd m clk [k] v)) (mclk m clk [k]) := by
  have := mput_res h.wf (key := [k]) rfl v id
  rw [hf] at this
  exact this
theorem CntOK.put_some {m : List ME} {clk : Nat} {l : List Int} (h : CntOK m clk l) {k : Int} (v : T) {i : Nat} (hf : kfind ((none, some IntKind.i64) : Sh) (mks m) [k] = some i) : AO.map ((none, some IntKind.i64) : Sh) (mks m) ((mvs m).set i v) clk = AO.map ((none, some IntKind.i64) : Sh) (mks (mupd m clk [k] v)) (mvs (mupd m clk [k] v)) (mclk m clk [k]) := by
  have := mput_res h.wf (key := [k]) rfl v id
  rw [hf] at this
  exact this

/-! ### Whether a list is right -/
def goodAt (s : Su) (many : Int) (l : List Int) (i : Nat) : Bool := decide (l.getD i 0 = -1) || (decide (0 ≤ l.getD i 0) && decide (0 ≤ fstH s i) && decide (l.getD i 0 < fstH s i) && decide (((l.take (i + 1)).count (l.getD i 0) : Int) ≤ many))
def outM (s : Su) (l : List Int) : Nat → Nat := maskOf fun i => decide (l.getD i 0 = -1) && decide (0 ≤ fstH s i)
def rightB (s : Su) (many : Int) (l : List Int) : Bool := (List.range l.length).all (goodAt s many l)
def rightO (s : Su) (many : Int) (l : List Int) : Out := if rightB s many l then .ret (.tup [.t (vi (outM s l l.length : Nat)), .t (vb true)]) else .ret (.tup [.t (vi 0), .t (vb false)])
theorem rightO_bad {s : Su} {many : Int} {l : List Int} {j : Nat} (hj : j < l.length) (h : goodAt s many l j = false) : rightO s many l = .ret (.tup [.t (vi 0), .t (vb false)]) := by
  unfold rightO
  rw [if_neg]
  intro hc
  have := List.all_eq_true.1 hc j (List.mem_range.2 hj)
  rw [h] at this
  cases this
theorem rightO_good {s : Su} {many : Int} {l : List Int} (h : ∀ i < l.length, goodAt s many l i = true) : rightO s many l = .ret (.tup [.t (vi (outM s l l.length : Nat)), .t (vb true)]) := by
  unfold rightO
  rw [if_pos]
  exact List.all_eq_true.2 fun i hi => h i (List.mem_range.1 hi)

set_option maxRecDepth 8000 in
set_option maxHeartbeats 8000000 in
theorem right_ok (s : Su) (hs : s.OK) (many : Int) (l : List Int) (hl : l.length = s.huts.length) (hb : ∀ x ∈ l, -1 ≤ x ∧ x ≤ 7) :
    ACall Tryd.prog 38 [.t (.slice 1 (l.map fun z : Int => vi z)), .t (.ptr (.agg (su5 s)) 0), .t (.ptr (.agg [vi many]) 0)] [] (res (rightO s many l)) := by
  refine ACall.walk k38 ?_
  unfold c38
  have hnh := hs.nh
  have hbad := fun j hj => rightO_bad (s := s) (many := many) (l := l) (j := j) hj
  have hgood := rightO_good (s := s) (many := many) (l := l)
  have hga : ∀ i x, l[i]? = some x → goodAt s many l i = (decide (x = -1) || (decide (0 ≤ x) && decide (0 ≤ fstH s i) && decide (x < fstH s i) && decide (((l.take (i + 1)).count x : Int) ≤ many))) := fun i x h => by
    unfold goodAt
    rw [List.getD_eq_getElem?_getD, h]; rfl
  have hom : ∀ i x, l[i]? = some x → outM s l (i + 1) = if decide (x = -1) && decide (0 ≤ fstH s i) then outM s l i ||| 2 ^ i else outM s l i := fun i x h => by
    show (if (decide (l.getD i 0 = -1) && decide (0 ≤ fstH s i)) = true then _ else _) = _
    rw [List.getD_eq_getElem?_getD, h]; rfl
  have holt : ∀ i, outM s l i < 2 ^ i := maskOf_lt _
  have hom0 : outM s l 0 = 0 := rfl
  generalize outM s l = OM at *
  generalize rightO s many l = RO at *
  generalize goodAt s many l = GA at *
  simp only [go_sem, Nat.reduceEqDiff, Nat.reduceAdd, Nat.reduceSub, Nat.reduceMul, Nat.reduceLT, Nat.reduceLeDiff, Nat.reduceMod, Nat.reduceDiv, Int.reduceToNat, Int.reduceLT, Int.reduceLE, Bool.not_true, Bool.not_false, reduceIte, Int.reduceEq, Int.reduceBEq, Int.reduceBNe, Int.reduceGT, Int.reduceGE, Int.reduceNeg, Int.reduceAdd, Int.reduceSub, Nat.reduceBEq, decide_true, decide_false, undef, beq_self_eq_true, bne_self_eq_false, Bool.and_true, Bool.true_and, Bool.and_false, Bool.false_and, Bool.or_true, Bool.true_or, Bool.or_false, Bool.false_or, List.length_map]
  refine awpL_for (i := 15) (L := 14) l.length (fun j st => (∀ i < j, GA i = true) ∧ ∃ m clk, CntOK m clk (l.take j) ∧ st = { env := [(15, .t (vi j)), (14, .t (vi l.length)), (13, .t (.slice 1 (l.map fun z : Int => vi z))), (7, .t (vi (OM j : Nat))), (6, .map 0), (1, .t (.ptr (.agg (su5 s)) 0)), (2, .t (.ptr (.agg [vi many]) 0))], σ := [.map ((none, some IntKind.i64) : Sh) (mks m) (mvs m) clk] }) ?_
    ⟨_, Sub.gc [0] [15, 14, 13, 7, 6, 1, 2] rfl rfl, by simp, [], 0, CntOK.nil, by rw [hom0]; rfl⟩ ?_ ?_
  · rintro k st ⟨_, _, _, _, rfl⟩; exact ⟨rfl, rfl⟩
  · rintro j st hj ⟨hGA, m, clk, hC, rfl⟩
    have hx : l[j]? = some l[j] := List.getElem?_eq_getElem hj
    have hbx := hb _ (List.getElem_mem hj)
    have htk : l.take (j + 1) = l.take j ++ [l[j]] := List.take_succ_eq_append_getElem hj
    have hg := hut_get (s := s) (j := j) (by omega)
    have h23 := Before_ok s hs j _ hg
    have hga := hga j _ hx
    have hom := hom j _ hx
    rw [htk] at hga
    have hfr := (first_rng s hs (s.huts.getD j ⟨0, 0, 0⟩))
    have hsb : specBefore s (s.huts.getD j ⟨0, 0, 0⟩) = if 0 ≤ fstH s j then (fstH s j, 0) else (0, 4) := rfl
    rw [hsb] at h23
    have hfe : firstS s (s.huts.getD j ⟨0, 0, 0⟩) = fstH s j := rfl
    rw [hfe] at hfr
    have hGA1 : GA j = true → ∀ i < j + 1, GA i = true := fun h i hi => by
      by_cases c : i < j
      · exact hGA i c
      · rw [show i = j by omega]; exact h
    have hbad := hbad j hj
    have hCn := fun (h : l[j]'hj < 0) => hC.neg (k := l[j]) h
    have hCp := fun (h : 0 ≤ l[j]'hj) => hC.put (k := l[j]) h
    have hwj : IntKind.i64.wrap ((j : Int) + 1) = ((j + 1 : Nat) : Int) := by rw [wrap_id (by omega) (by omega)]; omega
    have sl := shl_one (i := j) (by omega)
    have hp : 2 ^ j ≤ 32 := Nat.pow_le_pow_right (n := 2) (by decide) (show j ≤ 5 by omega)
    have o1 := bits_or (a := OM j) (b := 2 ^ j) (by have := holt j; omega) (by omega)
    have hj0 : ((j : Int) < 0) = False := by simp
    have hk1 : toKey ((none, some IntKind.i64) : Sh) (.t (vi l[j])) = some [l[j]] := rfl
    rw [← htk] at hCn hCp
    have hz : zeroT (.int .i64 0) = .lit (.int .i64 0) := rfl
    generalize l[j] = x at *
    generalize fstH s j = f at *
    unfold su5 at h23 ⊢
    simp only [go_sem, Nat.reduceEqDiff, Nat.reduceAdd, Nat.reduceSub, Nat.reduceMul, Nat.reduceLT, Nat.reduceLeDiff, Nat.reduceMod, Nat.reduceDiv, Int.reduceToNat, Int.reduceLT, Int.reduceLE, Bool.not_true, Bool.not_false, reduceIte, Int.reduceEq, Int.reduceBEq, Int.reduceBNe, Int.reduceGT, Int.reduceGE, Int.reduceNeg, Int.reduceAdd, Int.reduceSub, Nat.reduceBEq, decide_true, decide_false, undef, beq_self_eq_true, bne_self_eq_false, Bool.and_true, Bool.true_and, Bool.and_false, Bool.false_and, Bool.or_true, Bool.true_or, Bool.or_false, Bool.false_or, undef, List.length_map, List.getElem?_map, hx, Option.map_some]
    refine ACallL.quiet1 h23 rfl rfl rfl ?_
    rw [List.count_append, List.count_singleton_self] at hga
    by_cases hx0 : x < 0
    · have hx1 : x = -1 := by omega
      subst hx1
      have hCn := hCn (by omega)
      have hGA1 := hGA1 (by rw [hga]; rfl)
      by_cases hf : 0 ≤ f
      · rw [if_pos (by simp [hf])] at hom
        simp only [oneE, if_pos hf, go_sem, Nat.reduceEqDiff, Nat.reduceAdd, Nat.reduceSub, Nat.reduceMul, Nat.reduceLT, Nat.reduceLeDiff, Nat.reduceMod, Nat.reduceDiv, Int.reduceToNat, Int.reduceLT, Int.reduceLE, Bool.not_true, Bool.not_false, reduceIte, Int.reduceEq, Int.reduceBEq, Int.reduceBNe, Int.reduceGT, Int.reduceGE, Int.reduceNeg, Int.reduceAdd, Int.reduceSub, Nat.reduceBEq, decide_true, decide_false, undef, beq_self_eq_true, bne_self_eq_false, Bool.and_true, Bool.true_and, Bool.and_false, Bool.false_and, Bool.or_true, Bool.true_or, Bool.or_false, Bool.false_or, undef, sl, o1, hj0, hwj]
        exact ⟨_, Sub.gc [0] [15, 14, 13, 7, 6, 1, 2] rfl rfl, hGA1, m, clk, hCn, by rw [hom]; rfl⟩
      · rw [if_neg (by simp [hf])] at hom
        simp only [oneE, if_neg hf, go_sem, Nat.reduceEqDiff, Nat.reduceAdd, Nat.reduceSub, Nat.reduceMul, Nat.reduceLT, Nat.reduceLeDiff, Nat.reduceMod, Nat.reduceDiv, Int.reduceToNat, Int.reduceLT, Int.reduceLE, Bool.not_true, Bool.not_false, reduceIte, Int.reduceEq, Int.reduceBEq, Int.reduceBNe, Int.reduceGT, Int.reduceGE, Int.reduceNeg, Int.reduceAdd, Int.reduceSub, Nat.reduceBEq, decide_true, decide_false, undef, beq_self_eq_true, bne_self_eq_false, Bool.and_true, Bool.true_and, Bool.and_false, Bool.false_and, Bool.or_true, Bool.true_or, Bool.or_false, Bool.false_or, undef, sl, o1, hj0, hwj]
        exact ⟨_, Sub.gc [0] [15, 14, 13, 7, 6, 1, 2] rfl rfl, hGA1, m, clk, hCn, by rw [hom]; rfl⟩
    have hx1 : 0 ≤ x := by omega
    have hxm : ¬ x = -1 := by omega
    have d1 : decide (x < 0) = false := decide_eq_false hx0
    have hCp := hCp hx1
    have hlk2 := hCp.look hx1
    rw [htk, List.count_append, List.count_singleton_self] at hlk2
    rw [decide_eq_false hxm, decide_eq_true hx1, Bool.false_or, Bool.true_and] at hga
    rw [decide_eq_false hxm, Bool.false_and, if_neg (by simp)] at hom
    obtain ⟨i2, k2, v2, _⟩ := hlk2.resolve_left (fun h => by omega)
    have hcl : (l.take j).count x ≤ 5 := by
      have h1 := List.count_le_length (a := x) (l := l.take j)
      have h2 := List.length_take_le j l
      omega
    have hw1 : IntKind.i64.wrap 1 = 1 := by decide
    have hwc : IntKind.i64.wrap ((((l.take j).count x : Nat) : Int) + 1) = (((l.take j).count x : Nat) : Int) + 1 := wrap_id (by omega) (by omega)
    have hcc : (((l.take j).count x + 1 : Nat) : Int) = (((l.take j).count x : Nat) : Int) + 1 := by omega
    rw [hcc] at hga v2
    rcases hC.look hx1 with ⟨k1, c0⟩ | ⟨i1, k1, v1, c0⟩
    · have hput := hC.put_none (vi (((l.take j).count x : Nat) + 1 : Int)) k1
      rw [c0] at hput hga k2 v2 hCp
      generalize mupd m clk [x] (vi (((0 : Nat) : Int) + 1)) = m' at *
      generalize mclk m clk [x] = clk' at *
      replace hput : AO.map ((none, some IntKind.i64) : Sh) (mks m ++ [(clk, [x])]) (mvs m ++ [.lit (.int .i64 1)]) (clk + 1) = AO.map ((none, some IntKind.i64) : Sh) (mks m') (mvs m') clk' := hput
      replace v2 : (mvs m')[i2]? = some (.lit (.int .i64 1)) := v2
      replace hga : GA j = (decide (0 ≤ f) && decide (x < f) && decide (1 ≤ many)) := hga
      by_cases hf : 0 ≤ f
      · simp only [oneE, if_pos hf, go_sem, Nat.reduceEqDiff, Nat.reduceAdd, Nat.reduceSub, Nat.reduceMul, Nat.reduceLT, Nat.reduceLeDiff, Nat.reduceMod, Nat.reduceDiv, Int.reduceToNat, Int.reduceLT, Int.reduceLE, Bool.not_true, Bool.not_false, reduceIte, Int.reduceEq, Int.reduceBEq, Int.reduceBNe, Int.reduceGT, Int.reduceGE, Int.reduceNeg, Int.reduceAdd, Int.reduceSub, Nat.reduceBEq, decide_true, decide_false, undef, beq_self_eq_true, bne_self_eq_false, Bool.and_true, Bool.true_and, Bool.and_false, Bool.false_and, Bool.or_true, Bool.true_or, Bool.or_false, Bool.false_or, undef, d1, hk1, k1, mapOf?, hz, hw1, hput]
        rw [decide_eq_true hf, Bool.true_and] at hga
        cases hlt : decide (x ≥ f)
        · have hxf : x < f := by have := of_decide_eq_false hlt; omega
          rw [decide_eq_true hxf, Bool.true_and] at hga
          simp only [go_sem, Nat.reduceEqDiff, Nat.reduceAdd, Nat.reduceSub, Nat.reduceMul, Nat.reduceLT, Nat.reduceLeDiff, Nat.reduceMod, Nat.reduceDiv, Int.reduceToNat, Int.reduceLT, Int.reduceLE, Bool.not_true, Bool.not_false, reduceIte, Int.reduceEq, Int.reduceBEq, Int.reduceBNe, Int.reduceGT, Int.reduceGE, Int.reduceNeg, Int.reduceAdd, Int.reduceSub, Nat.reduceBEq, decide_true, decide_false, undef, beq_self_eq_true, bne_self_eq_false, Bool.and_true, Bool.true_and, Bool.and_false, Bool.false_and, Bool.or_true, Bool.true_or, Bool.or_false, Bool.false_or, undef, hk1, k2, v2, mapOf?]
          cases hgt : decide ((1 : Int) > many)
          · have := of_decide_eq_false hgt
            rw [decide_eq_true (by omega)] at hga
            simp only [go_sem, Nat.reduceEqDiff, Nat.reduceAdd, Nat.reduceSub, Nat.reduceMul, Nat.reduceLT, Nat.reduceLeDiff, Nat.reduceMod, Nat.reduceDiv, Int.reduceToNat, Int.reduceLT, Int.reduceLE, Bool.not_true, Bool.not_false, reduceIte, Int.reduceEq, Int.reduceBEq, Int.reduceBNe, Int.reduceGT, Int.reduceGE, Int.reduceNeg, Int.reduceAdd, Int.reduceSub, Nat.reduceBEq, decide_true, decide_false, undef, beq_self_eq_true, bne_self_eq_false, Bool.and_true, Bool.true_and, Bool.and_false, Bool.false_and, Bool.or_true, Bool.true_or, Bool.or_false, Bool.false_or, undef, hwj]
            exact ⟨_, Sub.gc [0] [15, 14, 13, 7, 6, 1, 2] rfl rfl, hGA1 hga, m', clk', hCp, by rw [hom]; exact St.gc_mk rfl rfl rfl rfl⟩
          · have := of_decide_eq_true hgt
            rw [decide_eq_false (by omega)] at hga
            simp only [go_sem, Nat.reduceEqDiff, Nat.reduceAdd, Nat.reduceSub, Nat.reduceMul, Nat.reduceLT, Nat.reduceLeDiff, Nat.reduceMod, Nat.reduceDiv, Int.reduceToNat, Int.reduceLT, Int.reduceLE, Bool.not_true, Bool.not_false, reduceIte, Int.reduceEq, Int.reduceBEq, Int.reduceBNe, Int.reduceGT, Int.reduceGE, Int.reduceNeg, Int.reduceAdd, Int.reduceSub, Nat.reduceBEq, decide_true, decide_false, undef, beq_self_eq_true, bne_self_eq_false, Bool.and_true, Bool.true_and, Bool.and_false, Bool.false_and, Bool.or_true, Bool.true_or, Bool.or_false, Bool.false_or, undef]
            exact finL_ret [] ⟨rfl, rfl, rfl, rfl, _, rfl, res_mk (hbad hga).symm⟩
        · have hxf : ¬ x < f := by have := of_decide_eq_true hlt; omega
          rw [decide_eq_false hxf, Bool.false_and] at hga
          simp only [go_sem, Nat.reduceEqDiff, Nat.reduceAdd, Nat.reduceSub, Nat.reduceMul, Nat.reduceLT, Nat.reduceLeDiff, Nat.reduceMod, Nat.reduceDiv, Int.reduceToNat, Int.reduceLT, Int.reduceLE, Bool.not_true, Bool.not_false, reduceIte, Int.reduceEq, Int.reduceBEq, Int.reduceBNe, Int.reduceGT, Int.reduceGE, Int.reduceNeg, Int.reduceAdd, Int.reduceSub, Nat.reduceBEq, decide_true, decide_false, undef, beq_self_eq_true, bne_self_eq_false, Bool.and_true, Bool.true_and, Bool.and_false, Bool.false_and, Bool.or_true, Bool.true_or, Bool.or_false, Bool.false_or, undef]
          exact finL_ret [] ⟨rfl, rfl, rfl, rfl, _, rfl, res_mk (hbad hga).symm⟩
      · rw [decide_eq_false hf, Bool.false_and, Bool.false_and] at hga
        simp only [oneE, if_neg hf, go_sem, Nat.reduceEqDiff, Nat.reduceAdd, Nat.reduceSub, Nat.reduceMul, Nat.reduceLT, Nat.reduceLeDiff, Nat.reduceMod, Nat.reduceDiv, Int.reduceToNat, Int.reduceLT, Int.reduceLE, Bool.not_true, Bool.not_false, reduceIte, Int.reduceEq, Int.reduceBEq, Int.reduceBNe, Int.reduceGT, Int.reduceGE, Int.reduceNeg, Int.reduceAdd, Int.reduceSub, Nat.reduceBEq, decide_true, decide_false, undef, beq_self_eq_true, bne_self_eq_false, Bool.and_true, Bool.true_and, Bool.and_false, Bool.false_and, Bool.or_true, Bool.true_or, Bool.or_false, Bool.false_or, undef, d1, hk1, k1, mapOf?, hz, hw1, hput]
        exact finL_ret [] ⟨rfl, rfl, rfl, rfl, _, rfl, res_mk (hbad hga).symm⟩
    · have hput := hC.put_some (vi (((l.take j).count x : Nat) + 1 : Int)) k1
      generalize mupd m clk [x] (vi ((((l.take j).count x : Nat) : Int) + 1)) = m' at *
      generalize mclk m clk [x] = clk' at *
      generalize (l.take j).count x = c at *
      by_cases hf : 0 ≤ f
      · simp only [oneE, if_pos hf, go_sem, Nat.reduceEqDiff, Nat.reduceAdd, Nat.reduceSub, Nat.reduceMul, Nat.reduceLT, Nat.reduceLeDiff, Nat.reduceMod, Nat.reduceDiv, Int.reduceToNat, Int.reduceLT, Int.reduceLE, Bool.not_true, Bool.not_false, reduceIte, Int.reduceEq, Int.reduceBEq, Int.reduceBNe, Int.reduceGT, Int.reduceGE, Int.reduceNeg, Int.reduceAdd, Int.reduceSub, Nat.reduceBEq, decide_true, decide_false, undef, beq_self_eq_true, bne_self_eq_false, Bool.and_true, Bool.true_and, Bool.and_false, Bool.false_and, Bool.or_true, Bool.true_or, Bool.or_false, Bool.false_or, undef, d1, hk1, k1, v1, mapOf?, hz, hwc, hput]
        rw [decide_eq_true hf, Bool.true_and] at hga
        cases hlt : decide (x ≥ f)
        · have hxf : x < f := by have := of_decide_eq_false hlt; omega
          rw [decide_eq_true hxf, Bool.true_and] at hga
          simp only [go_sem, Nat.reduceEqDiff, Nat.reduceAdd, Nat.reduceSub, Nat.reduceMul, Nat.reduceLT, Nat.reduceLeDiff, Nat.reduceMod, Nat.reduceDiv, Int.reduceToNat, Int.reduceLT, Int.reduceLE, Bool.not_true, Bool.not_false, reduceIte, Int.reduceEq, Int.reduceBEq, Int.reduceBNe, Int.reduceGT, Int.reduceGE, Int.reduceNeg, Int.reduceAdd, Int.reduceSub, Nat.reduceBEq, decide_true, decide_false, undef, beq_self_eq_true, bne_self_eq_false, Bool.and_true, Bool.true_and, Bool.and_false, Bool.false_and, Bool.or_true, Bool.true_or, Bool.or_false, Bool.false_or, undef, hk1, k2, v2, mapOf?]
          cases hgt : decide ((c : Int) + 1 > many)
          · have := of_decide_eq_false hgt
            rw [decide_eq_true (by omega)] at hga
            simp only [go_sem, Nat.reduceEqDiff, Nat.reduceAdd, Nat.reduceSub, Nat.reduceMul, Nat.reduceLT, Nat.reduceLeDiff, Nat.reduceMod, Nat.reduceDiv, Int.reduceToNat, Int.reduceLT, Int.reduceLE, Bool.not_true, Bool.not_false, reduceIte, Int.reduceEq, Int.reduceBEq, Int.reduceBNe, Int.reduceGT, Int.reduceGE, Int.reduceNeg, Int.reduceAdd, Int.reduceSub, Nat.reduceBEq, decide_true, decide_false, undef, beq_self_eq_true, bne_self_eq_false, Bool.and_true, Bool.true_and, Bool.and_false, Bool.false_and, Bool.or_true, Bool.true_or, Bool.or_false, Bool.false_or, undef, hwj]
            exact ⟨_, Sub.gc [0] [15, 14, 13, 7, 6, 1, 2] rfl rfl, hGA1 hga, m', clk', hCp, by rw [hom]; exact St.gc_mk rfl rfl rfl rfl⟩
          · have := of_decide_eq_true hgt
            rw [decide_eq_false (by omega)] at hga
            simp only [go_sem, Nat.reduceEqDiff, Nat.reduceAdd, Nat.reduceSub, Nat.reduceMul, Nat.reduceLT, Nat.reduceLeDiff, Nat.reduceMod, Nat.reduceDiv, Int.reduceToNat, Int.reduceLT, Int.reduceLE, Bool.not_true, Bool.not_false, reduceIte, Int.reduceEq, Int.reduceBEq, Int.reduceBNe, Int.reduceGT, Int.reduceGE, Int.reduceNeg, Int.reduceAdd, Int.reduceSub, Nat.reduceBEq, decide_true, decide_false, undef, beq_self_eq_true, bne_self_eq_false, Bool.and_true, Bool.true_and, Bool.and_false, Bool.false_and, Bool.or_true, Bool.true_or, Bool.or_false, Bool.false_or, undef]
            exact finL_ret [] ⟨rfl, rfl, rfl, rfl, _, rfl, res_mk (hbad hga).symm⟩
        · have hxf : ¬ x < f := by have := of_decide_eq_true hlt; omega
          rw [decide_eq_false hxf, Bool.false_and] at hga
          simp only [go_sem, Nat.reduceEqDiff, Nat.reduceAdd, Nat.reduceSub, Nat.reduceMul, Nat.reduceLT, Nat.reduceLeDiff, Nat.reduceMod, Nat.reduceDiv, Int.reduceToNat, Int.reduceLT, Int.reduceLE, Bool.not_true, Bool.not_false, reduceIte, Int.reduceEq, Int.reduceBEq, Int.reduceBNe, Int.reduceGT, Int.reduceGE, Int.reduceNeg, Int.reduceAdd, Int.reduceSub, Nat.reduceBEq, decide_true, decide_false, undef, beq_self_eq_true, bne_self_eq_false, Bool.and_true, Bool.true_and, Bool.and_false, Bool.false_and, Bool.or_true, Bool.true_or, Bool.or_false, Bool.false_or, undef]
          exact finL_ret [] ⟨rfl, rfl, rfl, rfl, _, rfl, res_mk (hbad hga).symm⟩
      · rw [decide_eq_false hf, Bool.false_and, Bool.false_and] at hga
        simp only [oneE, if_neg hf, go_sem, Nat.reduceEqDiff, Nat.reduceAdd, Nat.reduceSub, Nat.reduceMul, Nat.reduceLT, Nat.reduceLeDiff, Nat.reduceMod, Nat.reduceDiv, Int.reduceToNat, Int.reduceLT, Int.reduceLE, Bool.not_true, Bool.not_false, reduceIte, Int.reduceEq, Int.reduceBEq, Int.reduceBNe, Int.reduceGT, Int.reduceGE, Int.reduceNeg, Int.reduceAdd, Int.reduceSub, Nat.reduceBEq, decide_true, decide_false, undef, beq_self_eq_true, bne_self_eq_false, Bool.and_true, Bool.true_and, Bool.and_false, Bool.false_and, Bool.or_true, Bool.true_or, Bool.or_false, Bool.false_or, undef, d1, hk1, k1, v1, mapOf?, hz, hwc, hput]
        exact finL_ret [] ⟨rfl, rfl, rfl, rfl, _, rfl, res_mk (hbad hga).symm⟩
  · rintro st ⟨hGA, m, clk, hC, rfl⟩
    simp only [go_sem, Nat.reduceEqDiff, Nat.reduceAdd, Nat.reduceSub, Nat.reduceMul, Nat.reduceLT, Nat.reduceLeDiff, Nat.reduceMod, Nat.reduceDiv, Int.reduceToNat, Int.reduceLT, Int.reduceLE, Bool.not_true, Bool.not_false, reduceIte, Int.reduceEq, Int.reduceBEq, Int.reduceBNe, Int.reduceGT, Int.reduceGE, Int.reduceNeg, Int.reduceAdd, Int.reduceSub, Nat.reduceBEq, decide_true, decide_false, undef, beq_self_eq_true, bne_self_eq_false, Bool.and_true, Bool.true_and, Bool.and_false, Bool.false_and, Bool.or_true, Bool.true_or, Bool.or_false, Bool.false_or, undef]
    refine finL_ret [] ⟨rfl, rfl, rfl, rfl, _, rfl, res_mk (hgood hGA).symm⟩
end Go.Proofs.YtmahocdmkpigjaaDoor

/- SurfSave: plain laws. -/
namespace Go.Proofs.YtmahocdmkpigjaaDoor
open Go Go.Ab

theorem dec1024 {p : Nat → Prop} [DecidablePred p] (h : ((List.range 1024).all fun n => decide (p n)) = true) (n : Nat) (hn : n < 1024) : p n := by
  have := List.all_eq_true.mp h n (List.mem_range.mpr hn)
  simpa using this
theorem size_step : ∀ m : Nat, m < 1024 → size m = size (m / 2) + m % 2 ∧ size m ≤ 10 := dec1024 (by decide +kernel)

theorem rsize_ok (n : Nat) (hn : n < 1024) : ACall Tryd.prog 39 [.t (vi n)] [] (ret (vi (size n))) := by
  refine ACall.walk k39 ?_
  unfold c39
  simp only [go_sem, Nat.reduceEqDiff, Nat.reduceAdd, Nat.reduceSub, Nat.reduceMul, Nat.reduceLT, Nat.reduceLeDiff, Nat.reduceMod, Nat.reduceDiv, Int.reduceToNat, Int.reduceLT, Int.reduceLE, Bool.not_true, Bool.not_false, reduceIte]
  refine awpL_loopK 11 (fun k s => ∃ m o : Nat, m < 1024 ∧ m * 2 ^ k ≤ n ∧ o + size m = size n ∧ o ≤ k ∧ s = { env := [(0, .t (vi m)), (3, .t (vi o))], σ := [] }) ⟨_, Sub.gc [] [0, 3] rfl rfl, n, 0, hn, by simp, by simp, by omega, rfl⟩ ?_
  rintro k s hk ⟨m, o, hm, hmn, hs, ho, rfl⟩
  simp only [go_sem, Nat.reduceEqDiff, Nat.reduceAdd, Nat.reduceSub, Nat.reduceMul, Nat.reduceLT, Nat.reduceLeDiff, Nat.reduceMod, Nat.reduceDiv, Int.reduceToNat, Int.reduceLT, Int.reduceLE, Bool.not_true, Bool.not_false, reduceIte]
  refine BrL.mk (fun h => ?_) (fun h => ?_)
  · have hpos : 0 < m := by have : (m : Int) > 0 := by simpa using h
                            omega
    have hk6 : k < 10 := by
      rcases Nat.lt_or_ge k 10 with h | h
      · exact h
      · have h2 : 2 ^ 10 ≤ 2 ^ k := Nat.pow_le_pow_right (by omega) h
        have h3 : 1 * 2 ^ 10 ≤ m * 2 ^ k := Nat.mul_le_mul hpos h2
        omega
    have hst := (size_step m hm).1
    have n2 : ¬ ((2 : Int) = 0) := by omega
    have t1 : (m : Int).tmod 2 = ((m % 2 : Nat) : Int) := by rw [Int.tmod_eq_emod_of_nonneg (by omega)]; omega
    have t2 : (m : Int).tdiv 2 = ((m / 2 : Nat) : Int) := by rw [Int.tdiv_eq_ediv_of_nonneg (by omega)]; omega
    have w1 : IntKind.i64.wrap ((o : Int) + (m % 2 : Nat)) = ((o + m % 2 : Nat) : Int) := by rw [wrap_id (by omega) (by omega)]; omega
    have w2 : IntKind.i64.wrap ((m / 2 : Nat) : Int) = ((m / 2 : Nat) : Int) := wrap_id (by omega) (by omega)
    simp only [h, go_sem, Nat.reduceEqDiff, Nat.reduceAdd, Nat.reduceSub, Nat.reduceMul, Nat.reduceLT, Nat.reduceLeDiff, Nat.reduceMod, Nat.reduceDiv, Int.reduceToNat, Int.reduceLT, Int.reduceLE, Bool.not_true, Bool.not_false, reduceIte, n2, t1, t2, w1, w2]
    refine ⟨by omega, _, Sub.gc [] [0, 3] rfl rfl, m / 2, o + m % 2, by omega, ?_, by omega, by omega, rfl⟩
    have h3 : m / 2 * 2 ^ (k + 1) = m / 2 * 2 * 2 ^ k := by rw [Nat.pow_succ, Nat.mul_comm (2 ^ k) 2, Nat.mul_assoc]
    have h4 : m / 2 * 2 * 2 ^ k ≤ m * 2 ^ k := Nat.mul_le_mul_right _ (by omega)
    omega
  · have hz : m = 0 := by have : ¬ (m : Int) > 0 := by simpa using h
                          omega
    subst hz
    simp only [h, go_sem, Nat.reduceEqDiff, Nat.reduceAdd, Nat.reduceSub, Nat.reduceMul, Nat.reduceLT, Nat.reduceLeDiff, Nat.reduceMod, Nat.reduceDiv, Int.reduceToNat, Int.reduceLT, Int.reduceLE, Bool.not_true, Bool.not_false, reduceIte]
    have : size 0 = 0 := rfl
    exact finL_ret [] ⟨rfl, rfl, rfl, rfl, _, rfl, res_mk (by rw [← hs, this]; rfl)⟩

theorem canN_bit (s : Su) (i : Nat) : (canN s).testBit i = (decide (i < s.huts.length) && decide (0 ≤ fstH s i)) := maskOf_bit _ _ _
theorem outM_bit (s : Su) (l : List Int) (n i : Nat) : (outM s l n).testBit i = (decide (i < n) && (decide (l.getD i 0 = -1) && decide (0 ≤ fstH s i))) := maskOf_bit _ _ _
theorem fsN_at {s : Su} {i : Nat} (h : i < s.huts.length) (h5 : s.huts.length ≤ 5) : (fsN s).getD i 0 = fstH s i := by
  unfold fsN fsA
  rw [List.getD_eq_getElem?_getD, List.getElem?_map, List.getElem?_range (by omega), Option.map_some, if_pos h]; rfl
def Cnt (full : List Nat) (p : List Int) : Prop := full.length = 8 ∧ ∀ h : Nat, h < 8 → full.getD h 0 = p.count (h : Int)
theorem Cnt.neg {full : List Nat} {p : List Int} (h : Cnt full p) : Cnt full (p ++ [-1]) := ⟨h.1, fun i hi => by
  rw [List.count_append, List.count_eq_zero (l := [-1]).2 (by rw [List.mem_singleton]; omega)]; exact h.2 i hi⟩
theorem Cnt.put {full : List Nat} {p : List Int} (h : Cnt full p) {x : Nat} (hx : x < 8) : Cnt (full.set x (full.getD x 0 + 1)) (p ++ [(x : Int)]) := ⟨by simpa using h.1, fun i hi => by
  have h2 := h.2 i hi
  rw [List.count_append, List.getD_eq_getElem?_getD]
  by_cases c : x = i
  · subst c
    rw [List.getElem?_set_self (by have := h.1; omega), List.count_singleton_self, h2]; rfl
  · rw [List.getElem?_set_ne c, List.count_eq_zero (l := [(x : Int)]).2 (by rw [List.mem_singleton]; omega), ← List.getD_eq_getElem?_getD, h2]; rfl⟩
theorem Cnt.zero : Cnt zer8 [] := ⟨rfl, fun h hh => by
  rcases h with _ | _ | _ | _ | _ | _ | _ | _ | h <;> first | rfl | omega⟩

theorem feas_of_right {s : Su} (hs : s.OK) {many : Int} {l : List Int} (hl : l.length = s.huts.length) (hr : rightB s many l = true) : ∀ (k hut : Nat) (full : List Nat), hut + k = l.length → Cnt full (l.take hut) → Feas (canN s) (fsN s) many (outM s l l.length) k hut full (l.drop hut)
  | 0, hut, full, h, _ => List.drop_eq_nil_of_le (by omega)
  | k + 1, hut, full, h, hc => by
    have hlt : hut < l.length := by omega
    have hg : goodAt s many l hut = true := List.all_eq_true.1 hr hut (List.mem_range.2 hlt)
    have hget : l.getD hut 0 = l[hut] := by rw [List.getD_eq_getElem?_getD, List.getElem?_eq_getElem hlt]; rfl
    have htk : l.take (hut + 1) = l.take hut ++ [l[hut]] := List.take_succ_eq_append_getElem hlt
    have ih := fun full' => feas_of_right hs hl hr k (hut + 1) full' (by omega)
    unfold goodAt at hg
    rw [hget] at hg
    refine ⟨l[hut], l.drop (hut + 1), List.drop_eq_getElem_cons hlt, ?_⟩
    rw [ndiff_bit, canN_bit, outM_bit, hget, ← hl, decide_eq_true hlt, Bool.true_and, Bool.true_and]
    by_cases hm : l[hut] = -1
    · rw [if_neg (by rw [hm]; simp)]
      refine ⟨hm, ih full ?_⟩
      rw [htk, hm]
      exact hc.neg
    · rw [decide_eq_false hm, Bool.false_or] at hg
      simp only [Bool.and_eq_true, decide_eq_true_eq] at hg
      obtain ⟨⟨⟨h0, hf⟩, hlf⟩, hct⟩ := hg
      have hf7 := (first_rng s hs (s.huts.getD hut ⟨0, 0, 0⟩)).2
      have hfe : firstS s (s.huts.getD hut ⟨0, 0, 0⟩) = fstH s hut := rfl
      rw [if_pos (by simp [hm, hf])]
      have hx : ((l[hut].toNat : Nat) : Int) = l[hut] := by omega
      have h8 : l[hut].toNat < 8 := by omega
      have hfull := hc.2 _ h8
      rw [hx] at hfull
      rw [htk, List.count_append, List.count_singleton_self] at hct
      refine ⟨l[hut].toNat, hx.symm, ?_, by rw [hfull]; omega, ih _ ?_⟩
      · rw [fsN_at (by omega) hs.nh]; omega
      · rw [htk]
        have := hc.put h8
        rw [hx] at this
        exact this
theorem right_of_feas {s : Su} (hs : s.OK) {many : Int} {left : Nat} (hlc : ndiff left (canN s) = 0) {l : List Int} (hl : l.length = s.huts.length) : ∀ (k hut : Nat) (full : List Nat), hut + k = l.length → Cnt full (l.take hut) → (∀ i < 8, (full.getD i 0 : Int) ≤ many) → Feas (canN s) (fsN s) many left k hut full (l.drop hut) → ∀ i, hut ≤ i → i < l.length → goodAt s many l i = true ∧ left.testBit i = (decide (l.getD i 0 = -1) && decide (0 ≤ fstH s i))
  | 0, hut, full, h, _, _, _ => fun i h1 h2 => by omega
  | k + 1, hut, full, h, hc, hm, hF => fun i h1 h2 => by
    have hlt : hut < l.length := by omega
    have hget : l.getD hut 0 = l[hut] := by rw [List.getD_eq_getElem?_getD, List.getElem?_eq_getElem hlt]; rfl
    have htk : l.take (hut + 1) = l.take hut ++ [l[hut]] := List.take_succ_eq_append_getElem hlt
    obtain ⟨x, r, hx, hF⟩ := hF
    rw [List.drop_eq_getElem_cons hlt] at hx
    injection hx with hx1 hx2
    subst hx2
    have hcb := canN_bit s hut
    rw [← hl, decide_eq_true hlt, Bool.true_and] at hcb
    have hlb : (left.testBit hut && !decide (0 ≤ fstH s hut)) = false := by rw [← hcb, ← ndiff_bit, hlc, Nat.zero_testBit]
    rw [ndiff_bit, hcb] at hF
    by_cases hb : (decide (0 ≤ fstH s hut) && !left.testBit hut) = true
    · rw [if_pos hb] at hF
      obtain ⟨v, rfl, hv, hmv, hF⟩ := hF
      rw [Bool.and_eq_true, decide_eq_true_eq] at hb
      rw [fsN_at (by omega) hs.nh] at hv
      have hf7 := (first_rng s hs (s.huts.getD hut ⟨0, 0, 0⟩)).2
      have hfe : firstS s (s.huts.getD hut ⟨0, 0, 0⟩) = fstH s hut := rfl
      have h8 : v < 8 := by omega
      have hfull := hc.2 _ h8
      have hmm := hm v h8
      have hc' := hc.put h8
      rw [← hx1, ← htk] at hc'
      have ih := right_of_feas hs hlc hl k (hut + 1) _ (by omega) hc' (fun j hj => by
        rw [List.getD_eq_getElem?_getD]
        by_cases c : v = j
        · subst c
          rw [List.getElem?_set_self (by have := hc.1; omega)]
          simp only [Option.getD_some]
          omega
        · rw [List.getElem?_set_ne c, ← List.getD_eq_getElem?_getD]
          exact hm j hj) hF
      by_cases c : i = hut
      · subst c
        refine ⟨?_, ?_⟩
        · unfold goodAt
          rw [hget, htk, List.count_append, List.count_singleton_self, hx1, ← hfull]
          simp only [Bool.or_eq_true, Bool.and_eq_true, decide_eq_true_eq]
          exact .inr ⟨⟨⟨by omega, hb.1⟩, by omega⟩, by omega⟩
        · rw [hget, hx1]
          have : left.testBit i = false := by have := hb.2; simpa using this
          rw [this, decide_eq_false (by omega), Bool.false_and]
      · exact ih i (by omega) h2
    · rw [if_neg hb] at hF
      obtain ⟨rfl, hF⟩ := hF
      have hc' := hc.neg
      rw [← hx1, ← htk] at hc'
      have ih := right_of_feas hs hlc hl k (hut + 1) _ (by omega) hc' hm hF
      by_cases c : i = hut
      · subst c
        refine ⟨?_, ?_⟩
        · unfold goodAt
          rw [hget, hx1]; rfl
        · rw [hget, hx1]
          revert hb hlb
          cases left.testBit i <;> cases decide (0 ≤ fstH s i) <;> simp
      · exact ih i (by omega) h2

theorem findSome_range_first {α : Type} {f : Nat → Option α} {N j : Nat} {x : α} (hj : j < N) (h : f j = some x) : ∃ k y, k ≤ j ∧ f k = some y ∧ (List.range N).findSome? f = some y ∧ ∀ i < k, f i = none := by
  have hsome : ((List.range N).findSome? f).isSome = true := by
    rw [List.findSome?_isSome_iff]
    exact ⟨j, List.mem_range.2 hj, by rw [h]; rfl⟩
  obtain ⟨y, hy⟩ := Option.isSome_iff_exists.1 hsome
  obtain ⟨k, hk, h1, h2⟩ := findSome_range_spec hy
  refine ⟨k, y, ?_, h1, hy, h2⟩
  apply Classical.byContradiction
  intro c
  have := h2 j (by omega)
  rw [h] at this
  cases this
theorem size_le5 : ∀ S : Nat, S < 1024 → ∀ n ≤ 5, S < 2 ^ n → size S ≤ n := dec1024 (by decide +kernel)
theorem saveP_set {s : Su} {many : Int} {sz set : Nat} {r : List Int × Nat} (h : saveP s many sz set = some r) : size set = sz ∧ ndiff set (canN s) = 0 ∧ r.2 = set ∧ solN s many set = some r.1 := by
  unfold saveP at h
  split at h
  · rename_i hc
    obtain ⟨l, hl, rfl⟩ := Option.map_eq_some_iff.1 h
    exact ⟨hc.1, hc.2, rfl, hl⟩
  · cases h
/-- A set that can be left: what is told is no greater, nor as great and a greater set. -/
theorem saveF_best {s : Su} (hs : s.OK) {many : Int} {set : Nat} {q : List Int} (hset : set < 2 ^ s.huts.length) (hc : ndiff set (canN s) = 0) (hq : solN s many set = some q) : ∃ l left, saveF s many = some (l, left) ∧ left < 2 ^ s.huts.length ∧ ndiff left (canN s) = 0 ∧ solN s many left = some l ∧ (size left < size set ∨ size left = size set ∧ left ≤ set) := by
  have hnh := hs.nh
  have hp : 2 ^ s.huts.length ≤ 32 := Nat.pow_le_pow_right (n := 2) (by decide) (show s.huts.length ≤ 5 by omega)
  have hsp : saveP s many (size set) set = some (q, set) := by
    unfold saveP
    rw [if_pos ⟨rfl, hc⟩, hq]; rfl
  have hsz := size_le5 set (by omega) _ hnh hset
  obtain ⟨k, y, hk, hy, _, hno⟩ := findSome_range_first (f := fun k => saveP s many (size set) k) hset hsp
  obtain ⟨k1, y1, hk1, hy1, hF, _⟩ := findSome_range_first (f := fun sz => (List.range (2 ^ s.huts.length)).findSome? fun set => saveP s many sz set) (N := s.huts.length + 1) (j := size set) (x := (findSome_range_first (f := fun k => saveP s many (size set) k) hset hsp).choose_spec.choose) (by omega) (findSome_range_first (f := fun k => saveP s many (size set) k) hset hsp).choose_spec.choose_spec.2.2.1
  obtain ⟨k2, hk2, h3, h4⟩ := findSome_range_spec hy1
  obtain ⟨e1, e2, e3, e4⟩ := saveP_set h3
  refine ⟨y1.1, y1.2, hF, by omega, by rw [e3]; exact e2, by rw [e3]; exact e4, ?_⟩
  rw [e3, e1]
  by_cases c : k1 = size set
  · refine .inr ⟨c, ?_⟩
    apply Classical.byContradiction
    intro c2
    have := h4 set (by omega)
    rw [c, hsp] at this
    cases this
  · exact .inl (by omega)
theorem outM_lt (s : Su) (l : List Int) (n : Nat) : outM s l n < 2 ^ n := maskOf_lt _ _
theorem outM_can (s : Su) {l : List Int} (hl : l.length = s.huts.length) : ndiff (outM s l l.length) (canN s) = 0 := by
  apply Nat.eq_of_testBit_eq
  intro i
  rw [ndiff_bit, outM_bit, canN_bit, Nat.zero_testBit, hl]
  cases decide (i < s.huts.length) <;> cases decide (0 ≤ fstH s i) <;> simp
theorem right_of_solN {s : Su} (hs : s.OK) {many : Int} (hm : 0 ≤ many) {left : Nat} (hlt : left < 2 ^ s.huts.length) (hlc : ndiff left (canN s) = 0) {l : List Int} (h : solN s many left = some l) : l.length = s.huts.length ∧ rightB s many l = true ∧ outM s l l.length = left := by
  have hl : l.length = s.huts.length := solve_len _ _ _ _ _ _ _ h
  have hF := solve_feas _ _ _ _ _ _ _ h
  have hr := right_of_feas hs hlc hl s.huts.length 0 zer8 (by omega) Cnt.zero (fun i hi => by rcases i with _ | _ | _ | _ | _ | _ | _ | _ | i <;> first | exact hm | omega) hF
  refine ⟨hl, List.all_eq_true.2 fun i hi => (hr i (by omega) (List.mem_range.1 hi)).1, ?_⟩
  apply Nat.eq_of_testBit_eq
  intro i
  rw [outM_bit]
  by_cases c : i < l.length
  · rw [(hr i (by omega) c).2, decide_eq_true c, Bool.true_and]
  · rw [decide_eq_false c, Bool.false_and]
    exact (Nat.testBit_lt_two_pow (Nat.lt_of_lt_of_le hlt (Nat.pow_le_pow_right (by decide) (by omega)))).symm
/-- What Save tells, against any list that is right. -/
theorem save_law {s : Su} (hs : s.OK) {many : Int} {own : List Int} (hl : own.length = s.huts.length) (hr : rightB s many own = true) : ∃ l left, saveF s many = some (l, left) ∧ (size left < size (outM s own own.length) ∨ size left = size (outM s own own.length) ∧ left ≤ outM s own own.length) ∧ (left = outM s own own.length → lexle l own) := by
  have hF := feas_of_right hs hl hr own.length 0 zer8 (by omega) Cnt.zero
  rw [List.drop_zero] at hF
  obtain ⟨q, hq, hle⟩ := solve_best _ _ _ _ _ _ _ hF
  have hq' : solN s many (outM s own own.length) = some q := by unfold solN; rw [← hl]; exact hq
  obtain ⟨l, left, h1, h2, h3, h4, h5⟩ := saveF_best hs (by rw [← hl]; exact outM_lt s own own.length) (outM_can s hl) hq'
  refine ⟨l, left, h1, h5, fun e => ?_⟩
  rw [e, hq'] at h4
  cases h4
  exact hle
/-- Save always tells something. -/
theorem save_some {s : Su} (hs : s.OK) {many : Int} (hm : 0 ≤ many) : ∃ l left, saveF s many = some (l, left) ∧ l.length = s.huts.length ∧ rightB s many l = true ∧ outM s l l.length = left ∧ left < 2 ^ s.huts.length := by
  have hl : (List.replicate s.huts.length (-1 : Int)).length = s.huts.length := by simp
  have hr : rightB s many (List.replicate s.huts.length (-1)) = true := List.all_eq_true.2 fun i hi => by
    unfold goodAt
    rw [List.getD_eq_getElem?_getD, List.getElem?_replicate, if_pos (by simpa using hi)]; rfl
  have hF := feas_of_right hs hl hr (List.replicate s.huts.length (-1 : Int)).length 0 zer8 (by omega) Cnt.zero
  rw [List.drop_zero] at hF
  obtain ⟨q, hq, _⟩ := solve_best _ _ _ _ _ _ _ hF
  rw [hl] at hq
  have hc := outM_can s hl
  have hlt := outM_lt s (List.replicate s.huts.length (-1)) (List.replicate s.huts.length (-1 : Int)).length
  rw [hl] at hc hlt
  obtain ⟨l, left, h1, h2, h3, h4, _⟩ := saveF_best hs hlt hc hq
  obtain ⟨h5, h6, h7⟩ := right_of_solN hs hm h2 h3 h4
  exact ⟨l, left, h1, h5, h6, h7, h2⟩
end Go.Proofs.YtmahocdmkpigjaaDoor
