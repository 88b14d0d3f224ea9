/- Proved here: laws that the statements need (BoY4, BoY5, BoY6). No conditions but those that each law states. -/
import Derived.Test.YtafcdpmcmmfbhaaDoorC2

set_option linter.unusedSimpArgs false
set_option linter.unusedVariables false

/- The document's results of boats: what is told, Can, Rows. -/
namespace Go.Proofs.YtafcdpmcmmfbhaaDoor
open Go Go.Ab

theorem power60_ok (n : Nat) (hn : n ≤ 60) : ACall Tryd.prog 54 [.t (vi n)] [] (ret (vi ((2 ^ n : Nat) : Int))) := by
  refine ACall.walk k54 ?_
  unfold c54
  have hp : ∀ k : Nat, k ≤ 60 → 2 ^ k ≤ 2 ^ 60 := fun k hk => Nat.pow_le_pow_right (by omega) hk
  simp only [go_sem]
  refine awpL_loopK n (fun k s => s = { env := [(4, .t (vi k)), (3, .t (vi ((2 ^ k : Nat) : Int))), (0, .t (vi n))], σ := [] }) ⟨_, Sub.gc [] [4, 3, 0] rfl rfl, rfl⟩ ?_
  rintro k s hk rfl
  simp only [go_sem, Nat.reduceEqDiff]
  refine BrL.mk (fun h => ?_) (fun h => ?_)
  · have hlt : k < n := by simpa using h
    have h1 := hp k (by omega)
    have e1 : IntKind.i64.wrap (2 * ((2 ^ k : Nat) : Int)) = ((2 ^ (k + 1) : Nat) : Int) := by
      rw [Nat.pow_succ]
      generalize 2 ^ k = q at *
      rw [wrap_id (by omega) (by omega)]; omega
    have e2 : IntKind.i64.wrap ((k : Int) + 1) = ((k + 1 : Nat) : Int) := by rw [wrap_id (by omega) (by omega)]; omega
    simp only [h, go_sem, Nat.reduceEqDiff, e1, e2]
    exact ⟨hlt, _, Sub.gc [] [4, 3, 0] rfl rfl, rfl⟩
  · have : k = n := by have : ¬ (k : Int) < n := by simpa using h
                       omega
    subst this
    simp only [h, go_sem, Nat.reduceEqDiff]
    exact finL_ret [] ⟨rfl, rfl, rfl, rfl, _, rfl, res_mk rfl⟩


theorem rBoat_ok (b : Bo) (hl : Lens b) (n : Int) : ACall Tryd.prog 62 [.t (.agg (bo5 b)), .t (vi n)] [] (ret (vb (b.isBoat n))) := by
  refine ACall.walk k62 ?_
  unfold c62
  have h1 := hl.1
  have w1 : IntKind.i64.wrap ((b.seen.length : Int) - 1) = (b.seen.length : Int) - 1 := wrap_id (by omega) (by omega)
  have h59 := rin_ok n 0 ((b.seen.length : Int) - 1)
  simp only [bo5, go_sem, Nat.reduceEqDiff, Nat.reduceAdd, List.length_map, Option.map_some, w1]
  refine ACallL.quiet1 h59 rfl rfl rfl ?_
  simp only [go_sem, Nat.reduceEqDiff]
  exact finL_ret [] ⟨rfl, rfl, rfl, rfl, _, rfl, res_mk rfl⟩
theorem rMinute_ok (b : Bo) (n : Int) : ACall Tryd.prog 67 [.t (.agg (bo5 b)), .t (vi n)] [] (ret (vb (b.isMinute n))) := by
  refine ACall.walk k67 ?_
  unfold c67
  have h59 := rin_ok n 0 b.last
  simp only [bo5, go_sem, Nat.reduceEqDiff, Nat.reduceAdd, Nat.reduceLeDiff, Option.map_some]
  refine ACallL.quiet1 h59 rfl rfl rfl ?_
  simp only [go_sem, Nat.reduceEqDiff]
  exact finL_ret [] ⟨rfl, rfl, rfl, rfl, _, rfl, res_mk rfl⟩
def lookE (b : Bo) (v : Bool) : Int := if b.ok then (if v then 0 else 2) else 1
theorem look_ok (b : Bo) (hl : Lens b) (v : Bool) : ACall Tryd.prog 61 [.t (.agg (bo5 b)), .t (vb v)] [] (ret (vi (lookE b v))) := by
  refine ACall.walk k61 ?_
  unfold c61 lookE
  have h36 := rboats_ok b hl
  simp only [bo5] at h36
  generalize b.ok = ok at *
  simp only [bo5, go_sem, Nat.reduceEqDiff, Nat.reduceAdd, Option.map_some]
  refine ACallL.quiet1 h36 rfl rfl rfl ?_
  cases ok <;> cases v
  all_goals
    simp only [go_sem, Nat.reduceEqDiff, Bool.not_true, Bool.not_false]
    exact finL_ret [] ⟨rfl, rfl, rfl, rfl, _, rfl, res_mk rfl⟩
/-! ### Told -/
def plT (b : Bo) (n m : Nat) : List Nat := placesL (canM b n m) b.N
theorem mem_places {n k p : Nat} : p ∈ placesL n k ↔ p < k ∧ n.testBit p = true := by
  unfold placesL
  rw [List.mem_filter, List.mem_range]
theorem places_ne {b : Bo} (hb : b.OK) (q : Qu) {m : Nat} (hm : m ≤ b.L) : decide (0 < (placesL (canAt b q m) b.N).length) = canQ b q := by
  rw [Bool.eq_iff_iff, decide_eq_true_eq, canQ_iff hb, List.length_pos_iff_exists_mem]
  constructor
  · rintro ⟨p, hp⟩
    obtain ⟨c, hc, _⟩ := (canAt_bit hb q hm p).1 (mem_places.1 hp).2
    exact ⟨c, hc⟩
  · rintro ⟨c, hc⟩
    exact ⟨c m, mem_places.2 ⟨(hc.ok m (Nat.zero_le _) hm).lt, (canAt_bit hb q hm _).2 ⟨c, hc, rfl⟩⟩⟩
def toldT (b : Bo) (boat m : Int) (v : Bool) : T × Int := if b.ok then (if v && b.isBoat boat && b.isMinute m then (if isT b boat.toNat then (tN (plT b boat.toNat m.toNat), 0) else (.lit (.slice none 0 0), 10)) else (.lit (.slice none 0 0), 2)) else (.lit (.slice none 0 0), 1)
set_option maxRecDepth 8000 in
set_option maxHeartbeats 4000000 in
theorem rtold_ok (b : Bo) (hl : Lens b) (boat m : Int) (v : Bool) : ACall Tryd.prog 53 [.t (.agg (bo5 b)), .t (vi boat), .t (vi m), .t (vb v)] [] (res (.ret (.tup [.t (toldT b boat m v).1, .t (vi (toldT b boat m v).2)]))) := by
  generalize hR : toldT b boat m v = R
  refine ACall.walk k53 ?_
  have h62 := rBoat_ok b hl boat
  have h67 := rMinute_ok b m
  have h61 := look_ok b hl (v && b.isBoat boat && b.isMinute m)
  have hvalid : b.ok = true → (v && b.isBoat boat && b.isMinute m) = true → ∃ (n k : Nat), boat = n ∧ m = k ∧ n < b.seen.length ∧ k ≤ b.L := fun hk hv => by
    have hb := b.ok_iff.1 hk
    have hL := hb.L
    rw [Bool.and_eq_true, Bool.and_eq_true, isBoat_iff, isMinute_iff] at hv
    exact ⟨boat.toNat, m.toNat, by omega, by omega, by omega, by omega⟩
  have hR' : toldT b boat m v = if b.ok then (if v && b.isBoat boat && b.isMinute m then (if isT b boat.toNat then (tN (plT b boat.toNat m.toNat), 0) else (.lit (.slice none 0 0), 10)) else (.lit (.slice none 0 0), 2)) else (.lit (.slice none 0 0), 1) := rfl
  rw [hR] at hR'
  clear hR
  unfold lookE at h61
  unfold c53
  refine awpL_chop 2 (c1 := ?a1) (c2 := ?a2) (fun st => lk st.env 1 = .t (vi boat) ∧ lk st.env 2 = .t (vi m) ∧ lk st.env 4 = .ptr 0 0 ∧ lk st.env 8 = .t (.lit (.slice none 0 0)) ∧ lk st.env 9 = .t (vi 0) ∧ lk st.env 10 = .t (vi (if b.ok then (if v && b.isBoat boat && b.isMinute m then 0 else 2) else 1)) ∧ st.σ = [.cells ((bo5 b).map .t)] ∧ st.df = [] ∧ st.k = 0) ?hc ?_ ?_
  case hc => simp only [chop]; rfl
  · generalize b.isBoat boat = B1 at *
    generalize b.isMinute m = B2 at *
    simp only [bo5] at h62 h67 h61
    generalize (if b.ok then (if v && B1 && B2 then (0 : Int) else 2) else 1) = e at *
    cases v
    · simp only [Bool.false_and] at h61
      simp only [bo5, go_sem, Nat.reduceEqDiff, Nat.reduceAdd, undef, undef, Option.map_some]
      repeat' (first | refine AndL.mk ?_ ?_ | refine ACallL.quiet1 h61 rfl rfl rfl ?_ | simp only [bo5, go_sem, Nat.reduceEqDiff, Nat.reduceAdd, undef, undef, Option.map_some])
    · cases B1
      · simp only [Bool.false_and, Bool.and_false] at h61
        simp only [bo5, go_sem, Nat.reduceEqDiff, Nat.reduceAdd, beq_self_eq_true, Option.map_some]
        repeat' (first | refine AndL.mk ?_ ?_ | refine ACallL.quiet1 h62 rfl rfl rfl ?_ | refine ACallL.quiet1 h61 rfl rfl rfl ?_ | simp only [bo5, go_sem, Nat.reduceEqDiff, Nat.reduceAdd, undef, beq_self_eq_true, undef, Option.map_some])
      · simp only [Bool.true_and] at h61
        simp only [bo5, go_sem, Nat.reduceEqDiff, Nat.reduceAdd, beq_self_eq_true, Option.map_some]
        repeat' (first | refine AndL.mk ?_ ?_ | refine ACallL.quiet1 h62 rfl rfl rfl ?_ | refine ACallL.quiet1 h67 rfl rfl rfl ?_ | refine ACallL.quiet1 h61 rfl rfl rfl ?_ | simp only [bo5, go_sem, Nat.reduceEqDiff, Nat.reduceAdd, undef, beq_self_eq_true, undef, Option.map_some])
  clear h61 h62 h67
  rintro ⟨env, σ, df, k⟩ ⟨q1, q2, q4, q8, q9, q10, hσ, hdf, hk⟩
  simp only at q1 q2 q4 q8 q9 q10 hσ hdf hk
  subst hσ hdf hk
  cases hok : b.ok
  · rw [hok] at q10 hR'
    simp only [Bool.false_eq_true, if_false] at q10 hR'
    subst hR'
    simp only [bo5, go_sem, Nat.reduceEqDiff, Int.reduceBNe, q10]
    exact finL_ret [] ⟨rfl, rfl, rfl, rfl, _, rfl, res_mk rfl⟩
  rw [hok] at q10 hR'
  simp only [if_true] at q10 hR'
  cases hv : (v && b.isBoat boat && b.isMinute m)
  · rw [hv] at q10 hR'
    simp only [Bool.false_eq_true, if_false] at q10 hR'
    subst hR'
    simp only [bo5, go_sem, Nat.reduceEqDiff, Int.reduceBNe, q10]
    exact finL_ret [] ⟨rfl, rfl, rfl, rfl, _, rfl, res_mk rfl⟩
  obtain ⟨n, k, rfl, rfl, hn, hk⟩ := hvalid hok hv
  rw [hv] at q10 hR'
  simp only [if_true, Int.toNat_natCast] at q10 hR'
  have hb := b.ok_iff.1 hok
  have h57 := rplaces_ok b hb (seenOf b n) (hb.lens _ (seenOf_mem hn)) (hb.saw _ (seenOf_mem hn)) k hk 0 (by omega)
  have he : refP b (seenOf b n) k 0 = placesL (canAt b (rowQ b n 0) k) b.N := refP_eq hb (q := rowQ b n 0) rfl rfl (hb.saw _ (seenOf_mem hn)) hk
  rw [he] at h57
  have hne : decide (0 < (placesL (canAt b (rowQ b n 0) k) b.N).length) = isT b n := places_ne hb (rowQ b n 0) hk
  change decide (0 < (plT b n k).length) = isT b n at hne
  change ACall _ _ _ _ (ret (tN (plT b n k))) at h57
  have hs := seenOf_at hn
  have hil : (n : Int) < b.seen.length := by omega
  have g : (((plT b n k).length : Int) == 0) = !isT b n := by
    rw [← hne, Bool.eq_iff_iff]; simp
  generalize plT b n k = pl at *
  generalize seenOf b n = l at *
  generalize isT b n = is at *
  simp only [bo5, tSis] at h57
  simp only [tSis, bo5, go_sem, Nat.reduceEqDiff, Nat.reduceAdd, bne_self_eq_false, List.getElem?_map, Option.map_some, q1, q2, q4, q10, hs]
  repeat' (first | refine AndL.mk ?_ ?_ | refine ACallL.fresh1 h57 rfl ?_ | simp only [tSis, go_sem, Nat.reduceEqDiff, Nat.reduceAdd, List.length_map, List.getElem?_map, Option.map_some, q4, hs, g])
  cases is
  · simp only [Bool.false_eq_true, if_false] at hR'
    subst hR'
    simp only [go_sem, Bool.not_false]
    exact finL_ret [] ⟨rfl, rfl, rfl, rfl, _, rfl, res_mk rfl⟩
  · simp only [if_true] at hR'
    subst hR'
    simp only [go_sem, Nat.reduceEqDiff, Bool.not_true]
    exact finL_ret [] ⟨rfl, rfl, rfl, rfl, _, rfl, res_mk rfl⟩
end Go.Proofs.YtafcdpmcmmfbhaaDoor

/- The document's results of boats: Can, Rows. -/
namespace Go.Proofs.YtafcdpmcmmfbhaaDoor
open Go Go.Ab

def sumP (l : List Nat) : Nat := l.foldl (fun a p => a + 2 ^ p) 0
theorem sumP_snoc (l : List Nat) (p : Nat) : sumP (l ++ [p]) = sumP l + 2 ^ p := by unfold sumP; rw [List.foldl_append]; rfl
theorem sumP_places (n : Nat) : ∀ k, sumP (placesL n k) = n % 2 ^ k
  | 0 => by simp [placesL, sumP, Nat.mod_one]
  | k + 1 => by
    have ih := sumP_places n k
    have hs : placesL n (k + 1) = if n.testBit k then placesL n k ++ [k] else placesL n k := by
      unfold placesL
      rw [List.range_succ, List.filter_append]
      cases h : n.testBit k <;> simp [h]
    rw [hs]
    have h1 : n % 2 ^ (k + 1) = n % 2 ^ k + (if n.testBit k then 2 ^ k else 0) := by
      rw [Nat.pow_succ, Nat.mod_mul, Nat.testBit_eq_decide_div_mod_eq]
      by_cases h : n / 2 ^ k % 2 = 1
      · simp [h]
      · have : n / 2 ^ k % 2 = 0 := by omega
        simp [this]
    rw [h1]
    cases n.testBit k
    · simp only [Bool.false_eq_true, if_false]; omega
    · simp only [if_true]; rw [sumP_snoc, ih]
theorem sumP_le : ∀ (l : List Nat) (j : Nat), sumP (l.take j) ≤ sumP l := by
  have h : ∀ (l : List Nat) (a : Nat), l.foldl (fun a p => a + 2 ^ p) a = a + sumP l := by
    intro l
    induction l with
    | nil => intro a; rfl
    | cons x l ih =>
      intro a
      unfold sumP
      rw [List.foldl_cons, List.foldl_cons, ih, ih]; omega
  intro l j
  have := h (l.drop j) (sumP (l.take j))
  have e : sumP l = (l.drop j).foldl (fun a p => a + 2 ^ p) (sumP (l.take j)) := by
    unfold sumP
    rw [← List.foldl_append, List.take_append_drop]
  rw [e, this]; omega
theorem toldT_can (b : Bo) (boat m : Int) : ∃ (l : List Nat) (e : Int), toldT b boat m true = (if e = 0 then tN l else .lit (.slice none 0 0), e) ∧ specCan b boat m = (((sumP l : Nat) : Int), e) ∧ (e ≠ 0 → l = []) ∧ sumP l < 2 ^ 48 ∧ (∀ p ∈ l, p < 48) ∧ l.length ≤ 48 := by
  unfold toldT specCan
  cases hok : b.ok
  · exact ⟨[], 1, by simp, by simp [sumP], by simp, by simp [sumP], by simp, by simp⟩
  simp only [if_true, Bool.true_and]
  cases hv : (b.isBoat boat && b.isMinute m)
  · exact ⟨[], 2, by simp, by simp [sumP], by simp, by simp [sumP], by simp, by simp⟩
  simp only [if_true]
  have hb := b.ok_iff.1 hok
  rw [Bool.and_eq_true, isBoat_iff, isMinute_iff] at hv
  have hm : m.toNat ≤ b.L := by have := hb.L; omega
  cases hT : isT b boat.toNat
  · exact ⟨[], 10, by simp, by simp [sumP], by simp, by simp [sumP], by simp, by simp⟩
  · have hN := canM_N hb boat.toNat hm
    have hb48 := hb.N
    have e : sumP (plT b boat.toNat m.toNat) = canM b boat.toNat m.toNat := by
      unfold plT
      rw [sumP_places, Nat.mod_eq_of_lt hN]
    refine ⟨plT b boat.toNat m.toNat, 0, by simp, by simp [e], by simp, by rw [e]; exact canM_lt hb _ _, fun p hp => ?_, ?_⟩
    · have := (mem_places.1 hp).1
      omega
    · unfold plT placesL
      exact Nat.le_trans (List.length_filter_le _ _) (by simp; omega)
set_option maxRecDepth 8000 in
set_option maxHeartbeats 4000000 in
theorem rCan_ok (b : Bo) (hl : Lens b) (boat m : Int) : ACall Tryd.prog 17 [.t (.agg (bo5 b)), .t (vi boat), .t (vi m)] [] (res (oneE (specCan b boat m).1 (specCan b boat m).2)) := by
  obtain ⟨l, e, e1, e2, e3, e4, e5, e6⟩ := toldT_can b boat m
  have h53 := rtold_ok b hl boat m true
  rw [e1] at h53
  rw [e2]
  refine ACall.walk k17 ?_
  unfold c17
  have hle := sumP_le l
  simp only [bo5] at h53
  have hempty : ∀ h : e ≠ 0, sumP l = 0 := fun h => by rw [e3 h]; rfl
  simp only [bo5, go_sem, Nat.reduceEqDiff, Nat.reduceAdd, Option.map_some]
  refine ACallL.fresh1 h53 rfl ?_
  by_cases he : e = 0
  · subst he
    simp only [go_sem, Nat.reduceEqDiff, if_true]
    refine awpL_loopK l.length (fun j st => st = { env := [(11, .t (vi j)), (10, .t (vi (sumP (l.take j) : Nat))), (9, .t (vi 0)), (8, .t (tN l))], σ := [] }) ⟨_, Sub.gc [] [11, 10, 9, 8] rfl rfl, rfl⟩ ?_
    rintro j st hj rfl
    have hlj := hle j
    simp only [go_sem, Nat.reduceEqDiff, List.length_map]
    cases g : decide ((j : Int) < l.length)
    · have hje : j = l.length := by have := of_decide_eq_false g; omega
      subst hje
      rw [List.take_length]
      simp only [go_sem, Nat.reduceEqDiff]
      exact finL_ret [] ⟨rfl, rfl, rfl, rfl, _, rfl, res_mk rfl⟩
    · have hjl : j < l.length := by have := of_decide_eq_true g; omega
      have hx : l[j]? = some l[j] := List.getElem?_eq_getElem hjl
      have hwj : IntKind.i64.wrap ((j : Int) + 1) = ((j + 1 : Nat) : Int) := by rw [wrap_id (by omega) (by omega)]; omega
      have htk : sumP (l.take (j + 1)) = sumP (l.take j) + 2 ^ l[j] := by rw [List.take_succ_eq_append_getElem hjl, sumP_snoc]
      have hlj1 := hle (j + 1)
      have h54 := power60_ok l[j] (by have := e5 _ (List.getElem_mem hjl); omega)
      generalize sumP (l.take (j + 1)) = s1 at *
      generalize sumP (l.take j) = s0 at *
      generalize 2 ^ l[j] = q at *
      generalize l[j] = p at *
      have hw : IntKind.i64.wrap ((s0 : Int) + (q : Int)) = (s1 : Int) := by rw [wrap_id (by omega) (by omega)]; omega
      simp only [go_sem, Nat.reduceEqDiff, List.getElem?_map, Option.map_some, hx]
      refine ACallL.quiet1 h54 rfl rfl rfl ?_
      simp only [go_sem, Nat.reduceEqDiff, hw, hwj]
      exact ⟨hjl, _, Sub.gc [] [11, 10, 9, 8] rfl rfl, rfl⟩
  · have h0 := hempty he
    rw [h0]
    simp only [go_sem, Nat.reduceEqDiff, if_neg he]
    refine awpL_loopK 0 (fun j st => st = { env := [(11, .t (vi 0)), (10, .t (vi 0)), (9, .t (vi e)), (8, .t (.lit (.slice none 0 0)))], σ := [] }) ⟨_, Sub.gc [] [11, 10, 9, 8] rfl rfl, rfl⟩ ?_
    rintro j st hj rfl
    simp only [go_sem, Nat.reduceEqDiff, Int.reduceLT, decide_false]
    exact finL_ret [] ⟨rfl, rfl, rfl, rfl, _, rfl, res_mk rfl⟩
end Go.Proofs.YtafcdpmcmmfbhaaDoor

/- The document's results of boats: Rows. -/
namespace Go.Proofs.YtafcdpmcmmfbhaaDoor
open Go Go.Ab

def mmStep (W : Nat) (x : Nat × Nat) (p : Nat) : Nat × Nat := (min x.1 (p / W), max x.2 (p / W))
def mmR (W : Nat) (l : List Nat) (a : Nat × Nat) : Nat × Nat := l.foldl (mmStep W) a
theorem mmR_snoc (W : Nat) (l : List Nat) (a : Nat × Nat) (p : Nat) : mmR W (l ++ [p]) a = mmStep W (mmR W l a) p := by unfold mmR; rw [List.foldl_append]; rfl
theorem mmR_spec (W : Nat) : ∀ (l : List Nat) (a : Nat × Nat), (∀ p ∈ l, (mmR W l a).1 ≤ p / W ∧ p / W ≤ (mmR W l a).2) ∧ (mmR W l a).1 ≤ a.1 ∧ a.2 ≤ (mmR W l a).2 ∧ ((mmR W l a).1 = a.1 ∨ ∃ p ∈ l, (mmR W l a).1 = p / W) ∧ ((mmR W l a).2 = a.2 ∨ ∃ p ∈ l, (mmR W l a).2 = p / W)
  | [], a => ⟨by simp, Nat.le_refl _, Nat.le_refl _, .inl rfl, .inl rfl⟩
  | q :: l, a => by
    obtain ⟨h1, h2, h3, h4, h5⟩ := mmR_spec W l (mmStep W a q)
    have e : mmR W (q :: l) a = mmR W l (mmStep W a q) := rfl
    rw [e]
    have e1 : (mmStep W a q).1 = min a.1 (q / W) := rfl
    have e2 : (mmStep W a q).2 = max a.2 (q / W) := rfl
    rw [e1] at h2 h4
    rw [e2] at h3 h5
    generalize mmR W l (mmStep W a q) = R at *
    generalize mmStep W a q = M at *
    obtain ⟨R1, R2⟩ := R
    obtain ⟨M1, M2⟩ := M
    obtain ⟨a1, a2⟩ := a
    simp only at *
    refine ⟨fun p hp => ?_, by clear h4 h5 h1; omega, by clear h4 h5 h1; omega, ?_, ?_⟩
    · rcases List.mem_cons.1 hp with rfl | hp
      · clear h4 h5 h1; omega
      · exact h1 p hp
    · clear h5
      rcases h4 with h4 | ⟨p, hp, h4⟩
      · by_cases c : a1 ≤ q / W
        · exact .inl (by clear h1; omega)
        · exact .inr ⟨q, List.mem_cons_self .., by clear h1; omega⟩
      · exact .inr ⟨p, List.mem_cons_of_mem _ hp, h4⟩
    · clear h4
      rcases h5 with h5 | ⟨p, hp, h5⟩
      · by_cases c : q / W ≤ a2
        · exact .inl (by clear h1; omega)
        · exact .inr ⟨q, List.mem_cons_self .., by clear h1; omega⟩
      · exact .inr ⟨p, List.mem_cons_of_mem _ hp, h5⟩
theorem toldT_rows (b : Bo) (boat m : Int) : (∃ e : Int, e ≠ 0 ∧ toldT b boat m true = (.lit (.slice none 0 0), e) ∧ specRows b boat m = ((0, 0), e)) ∨ ∃ (l : List Nat) (p : Nat), b.OK ∧ l[0]? = some p ∧ toldT b boat m true = (tN l, 0) ∧ specRows b boat m = (((((mmR b.W l (p / b.W, p / b.W)).1 : Nat) : Int), (((mmR b.W l (p / b.W, p / b.W)).2 : Nat) : Int)), 0) ∧ (∀ p ∈ l, p < 48) ∧ l.length ≤ 48 := by
  unfold toldT specRows
  cases hok : b.ok
  · exact .inl ⟨1, by decide, by simp, by simp⟩
  simp only [if_true, Bool.true_and]
  cases hv : (b.isBoat boat && b.isMinute m)
  · exact .inl ⟨2, by decide, by simp, by simp⟩
  simp only [if_true]
  have hb := b.ok_iff.1 hok
  rw [Bool.and_eq_true, isBoat_iff, isMinute_iff] at hv
  have hm : m.toNat ≤ b.L := by have := hb.L; omega
  cases hT : isT b boat.toNat
  · exact .inl ⟨10, by decide, by simp, by simp [hT]⟩
  · rw [show canQ b (plainQ b boat.toNat) = true from hT]
    simp only [if_true]
    right
    have hb48 := hb.N
    have hpos : 0 < (plT b boat.toNat m.toNat).length := of_decide_eq_true ((places_ne hb (plainQ b boat.toNat) hm).trans hT)
    have hx := List.getElem?_eq_getElem hpos
    have hmem : ∀ p, p ∈ plT b boat.toNat m.toNat ↔ (canM b boat.toNat m.toNat).testBit p = true := fun p => by
      unfold plT
      rw [mem_places]
      refine ⟨fun h => h.2, fun h => ⟨?_, h⟩⟩
      obtain ⟨c, hc, rfl⟩ := (canM_bit hb hm p).1 h
      exact (hc.ok _ (Nat.zero_le _) hm).lt
    have h0 := List.getElem_mem hpos
    refine ⟨plT b boat.toNat m.toNat, (plT b boat.toNat m.toNat)[0], hb, hx, rfl, ?_, fun p hp => ?_, ?_⟩
    · obtain ⟨h1, h2, h3, h4, h5⟩ := mmR_spec b.W (plT b boat.toNat m.toNat) ((plT b boat.toNat m.toNat)[0] / b.W, (plT b boat.toNat m.toNat)[0] / b.W)
      obtain ⟨⟨p, hp, ep⟩, h6⟩ := lo_spec hb hm hT
      obtain ⟨⟨q, hq, eq⟩, h7⟩ := hi_spec hb hm hT
      have g1 := h1 p ((hmem p).2 hp)
      have g2 := h1 q ((hmem q).2 hq)
      have k1 : (mmR b.W (plT b boat.toNat m.toNat) ((plT b boat.toNat m.toNat)[0] / b.W, (plT b boat.toNat m.toNat)[0] / b.W)).1 = loR b (canM b boat.toNat m.toNat) := by
        rcases h4 with h4 | ⟨r, hr, h4⟩
        · have := h6 _ ((hmem _).1 h0)
          simp only at h4
          omega
        · have := h6 _ ((hmem _).1 hr)
          omega
      have k2 : (mmR b.W (plT b boat.toNat m.toNat) ((plT b boat.toNat m.toNat)[0] / b.W, (plT b boat.toNat m.toNat)[0] / b.W)).2 = hiR b (canM b boat.toNat m.toNat) := by
        rcases h5 with h5 | ⟨r, hr, h5⟩
        · have := h7 _ ((hmem _).1 h0)
          simp only at h5
          omega
        · have := h7 _ ((hmem _).1 hr)
          omega
      rw [k1, k2]
      rfl
    · have := (mem_places.1 hp).1
      omega
    · unfold plT placesL
      exact Nat.le_trans (List.length_filter_le _ _) (by simp; omega)
set_option maxRecDepth 8000 in
set_option maxHeartbeats 4000000 in
theorem rRows_ok (b : Bo) (hl : Lens b) (boat m : Int) : ACall Tryd.prog 19 [.t (.agg (bo5 b)), .t (vi boat), .t (vi m)] [] (res (spanE (specRows b boat m).1 (specRows b boat m).2)) := by
  have h53 := rtold_ok b hl boat m true
  rcases toldT_rows b boat m with ⟨e, he, e1, e2⟩ | ⟨l, p0, hb, hp0, e1, e2, e3, e4⟩
  · rw [e1] at h53
    rw [e2]
    refine ACall.walk k19 ?_
    unfold c19
    have g : (e != 0) = true := by simpa using he
    simp only [bo5] at h53
    simp only [bo5, go_sem, Nat.reduceEqDiff, Nat.reduceAdd, Option.map_some]
    refine ACallL.fresh1 h53 rfl ?_
    simp only [go_sem, Nat.reduceEqDiff, Nat.reduceAdd, undef, undef, Option.map_some, g]
    exact finL_ret [] ⟨rfl, rfl, rfl, rfl, _, rfl, res_mk rfl⟩
  · rw [e1] at h53
    rw [e2]
    refine ACall.walk k19 ?_
    unfold c19
    have hW := hb.W
    have n0 : ¬ (b.wide = 0) := by omega
    have hdv : ∀ p : Nat, p < 48 → (p : Int).tdiv b.wide = ((p / b.W : Nat) : Int) ∧ IntKind.i64.wrap ((p / b.W : Nat) : Int) = ((p / b.W : Nat) : Int) ∧ p / b.W < 48 := fun p hp => by
      have : p / b.W ≤ p := Nat.div_le_self _ _
      exact ⟨by rw [hW.2.2]; exact tdiv_nat p b.W, i64_nat (by omega), by omega⟩
    obtain ⟨d1, d2, d3⟩ := hdv p0 (e3 p0 (List.mem_of_getElem? hp0))
    have hpos : (0 : Int) < l.length := by have := (List.getElem?_eq_some_iff.1 hp0).1; omega
    have hend : mmR b.W (l.take l.length) (p0 / b.W, p0 / b.W) = mmR b.W l (p0 / b.W, p0 / b.W) := by rw [List.take_length]
    generalize mmR b.W l (p0 / b.W, p0 / b.W) = R at *
    have hbd : ∀ j, (mmR b.W (l.take j) (p0 / b.W, p0 / b.W)).1 < 48 := fun j => by
      have := (mmR_spec b.W (l.take j) (p0 / b.W, p0 / b.W)).2.1
      simp only at this; omega
    simp only [bo5] at h53
    simp only [bo5, go_sem, Nat.reduceEqDiff, Nat.reduceAdd, Option.map_some]
    refine ACallL.fresh1 h53 rfl ?_
    simp only [go_sem, Nat.reduceEqDiff, Nat.reduceAdd, Nat.reduceLeDiff, Int.reduceLE, undef, bne_self_eq_false, undef, List.getElem?_map, Option.map_some, hp0, n0, d1, d2]
    repeat' (first | refine AndL.mk ?_ ?_ | simp only [bo5, go_sem, Nat.reduceEqDiff, Nat.reduceAdd, Nat.reduceSub, Nat.reduceMul, Nat.reduceLT, Nat.reduceLeDiff, Nat.reduceMod, Nat.reduceDiv, Int.reduceToNat, Int.reduceLT, Int.reduceLE, Bool.not_true, Bool.not_false, reduceIte, Int.reduceEq, Int.reduceBEq, Int.reduceBNe, Int.reduceGT, Int.reduceGE, Int.reduceNeg, Int.reduceAdd, Int.reduceSub, Nat.reduceBEq, decide_true, decide_false, undef, beq_self_eq_true, bne_self_eq_false, Bool.and_true, Bool.true_and, Bool.and_false, Bool.false_and, Bool.or_true, Bool.true_or, Bool.or_false, Bool.false_or, undef, List.length_map, List.getElem?_map, Option.map_some, hp0, hpos, n0, d1, d2])
    refine awpL_loopK l.length (fun j st => st = { env := [(11, .t (vi j)), (10, .ptr 1 0), (8, .t (tN l)), (3, .t (.ptr (.agg (bo5 b)) 0)), (6, .ptr 0 0)], σ := [.cells [.t (vi 0), .t (vi 0)], .cells [.t (vi ((mmR b.W (l.take j) (p0 / b.W, p0 / b.W)).1 : Nat)), .t (vi ((mmR b.W (l.take j) (p0 / b.W, p0 / b.W)).2 : Nat))]] }) ⟨_, Sub.gc [1, 2] [11, 10, 8, 3, 6] rfl rfl, rfl⟩ ?_
    rintro j st hj rfl
    simp only [bo5, go_sem, Nat.reduceEqDiff, List.length_map]
    cases g : decide ((j : Int) < l.length)
    · have hje : j = l.length := by have := of_decide_eq_false g; omega
      subst hje
      rw [hend]
      simp only [go_sem, Nat.reduceEqDiff, Nat.reduceAdd, undef, undef, Option.map_some]
      exact finL_ret [] ⟨rfl, rfl, rfl, rfl, _, rfl, res_mk rfl⟩
    · have hjl : j < l.length := by have := of_decide_eq_true g; omega
      have hx : l[j]? = some l[j] := List.getElem?_eq_getElem hjl
      have hwj : IntKind.i64.wrap ((j : Int) + 1) = ((j + 1 : Nat) : Int) := by rw [wrap_id (by omega) (by omega)]; omega
      have htk : mmR b.W (l.take (j + 1)) (p0 / b.W, p0 / b.W) = mmStep b.W (mmR b.W (l.take j) (p0 / b.W, p0 / b.W)) l[j] := by rw [List.take_succ_eq_append_getElem hjl, mmR_snoc]
      obtain ⟨f1, f2, f3⟩ := hdv l[j] (e3 _ (List.getElem_mem hjl))
      have s1 : (mmStep b.W (mmR b.W (l.take j) (p0 / b.W, p0 / b.W)) l[j]).1 = min (mmR b.W (l.take j) (p0 / b.W, p0 / b.W)).1 (l[j] / b.W) := rfl
      have s2 : (mmStep b.W (mmR b.W (l.take j) (p0 / b.W, p0 / b.W)) l[j]).2 = max (mmR b.W (l.take j) (p0 / b.W, p0 / b.W)).2 (l[j] / b.W) := rfl
      rw [htk]
      generalize mmStep b.W (mmR b.W (l.take j) (p0 / b.W, p0 / b.W)) l[j] = R1 at *
      generalize mmR b.W (l.take j) (p0 / b.W, p0 / b.W) = R0 at *
      generalize l[j] / b.W = r at *
      generalize l[j] = p at *
      obtain ⟨u1, u2⟩ := R1
      obtain ⟨v1, v2⟩ := R0
      simp only at s1 s2
      have m1 : min (v1 : Int) (r : Int) = (u1 : Int) := by omega
      have m2 : max (v2 : Int) (r : Int) = (u2 : Int) := by omega
      simp only [bo5, go_sem, Nat.reduceEqDiff, Nat.reduceAdd, Nat.reduceLeDiff, undef, undef, List.getElem?_map, Option.map_some, hx, n0, f1, f2, hwj, m1, m2]
      repeat' (first | refine AndL.mk ?_ ?_ | simp only [bo5, go_sem, Nat.reduceEqDiff, Nat.reduceAdd, Nat.reduceSub, Nat.reduceMul, Nat.reduceLT, Nat.reduceLeDiff, Nat.reduceMod, Nat.reduceDiv, Int.reduceToNat, Int.reduceLT, Int.reduceLE, Bool.not_true, Bool.not_false, reduceIte, Int.reduceEq, Int.reduceBEq, Int.reduceBNe, Int.reduceGT, Int.reduceGE, Int.reduceNeg, Int.reduceAdd, Int.reduceSub, Nat.reduceBEq, decide_true, decide_false, undef, beq_self_eq_true, bne_self_eq_false, Bool.and_true, Bool.true_and, Bool.and_false, Bool.false_and, Bool.or_true, Bool.true_or, Bool.or_false, Bool.false_or, undef, List.length_map, List.getElem?_map, Option.map_some, g, hx, n0, f1, f2, hwj, m1, m2])
      exact ⟨hjl, _, Sub.gc [0, 1] [11, 10, 8, 3, 6] rfl rfl, rfl⟩
end Go.Proofs.YtafcdpmcmmfbhaaDoor
