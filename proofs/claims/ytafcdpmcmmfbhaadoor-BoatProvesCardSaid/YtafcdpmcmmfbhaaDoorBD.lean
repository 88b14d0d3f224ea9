/- Proved here: laws that the statements need (BoO, BoP). No conditions but those that each law states. -/
import Derived.Test.YtafcdpmcmmfbhaaDoorBC

set_option linter.unusedSimpArgs false
set_option linter.unusedVariables false

/- Package boat: Rows, Nearest, Broke, Speed. -/
namespace Go.Proofs.YtafcdpmcmmfbhaaDoor
open Go Go.Ab

def specRows (b : Bo) (boat m : Int) : Sp × Int := if b.ok then (if b.isBoat boat && b.isMinute m then (if canQ b (plainQ b boat.toNat) then (spanS b (canAt b (plainQ b boat.toNat) m.toNat), 0) else ((0, 0), 10)) else ((0, 0), 2)) else ((0, 0), 1)
def specNearest (b : Bo) (boat : Int) : Sp × Int := if b.ok then (if b.isBoat boat then (if canQ b (plainQ b boat.toNat) then (nearS b boat.toNat, 0) else ((0, 0), 10)) else ((0, 0), 2)) else ((0, 0), 1)
def brokeN (s : Sp) (row : Int) : Int := if s.2 < row then 2 else if s.1 ≥ row then 0 else 1
def specBroke (b : Bo) (boat row : Int) : Int × Int := if b.ok then (if b.isBoat boat && wI row 0 b.deep then (if canQ b (plainQ b boat.toNat) then (brokeN (nearS b boat.toNat) row, 0) else (0, 10)) else (0, 2)) else (0, 1)
def speedR (b : Bo) (boat : Nat) : Option Nat := (List.range 4).find? fun n => canQ b (speedQ boat n)
def specSpeed (b : Bo) (boat : Int) : Int × Int := if b.ok then (if b.isBoat boat then (match speedR b boat.toNat with | some n => ((n : Nat), 0) | none => (0, 4)) else (0, 2)) else (0, 1)

set_option maxRecDepth 8000 in
set_option maxHeartbeats 4000000 in
theorem Rows_ok (b : Bo) (hl : Lens b) (boat m : Int) : ACall Tryd.prog 18 [.t (.agg (bo5 b)), .t (vi boat), .t (vi m)] [] (res (spanE (specRows b boat m).1 (specRows b boat m).2)) := by
  refine ACall.walkD k18 ?_
  have h50 := isBoat_ok b hl boat
  have h51 := isMinute_ok b m
  have hop := fun is (σ : List AO) (R : Lz (Out → List AO → Prop)) h1 h2 h3 => openL (σ := σ) (R := R) b is hl h1 h2 h3
  unfold c18
  unfold bo5 at h50 h51 hop ⊢
  simp only [go_sem, Nat.reduceEqDiff, Nat.reduceAdd]
  refine ACallL.quiet1 h50 rfl rfl rfl ?_
  cases hB : b.isBoat boat
  · simp only [go_sem, Nat.reduceEqDiff, Nat.reduceAdd, undef, undef]
    refine hop _ _ _ (fun hok => ?_) (fun hok _ => ?_) (fun hok h => by cases h)
    · simp only [go_sem, Nat.reduceEqDiff]
      refine finDL_pan rfl rfl ((answer_pan rfl).mono fun σ' h => ?_)
      subst h
      exact ⟨_, rfl, [], rfl, rfl, res_mk (by simp only [specRows, hok]; rfl)⟩
    · simp only [go_sem, Nat.reduceEqDiff]
      refine finDL_pan rfl rfl ((answer_pan rfl).mono fun σ' h => ?_)
      subst h
      exact ⟨_, rfl, [], rfl, rfl, res_mk (by simp only [specRows, hok, hB]; rfl)⟩
  simp only [go_sem, Nat.reduceEqDiff, Nat.reduceAdd, beq_self_eq_true]
  refine ACallL.quiet1 h51 rfl rfl rfl ?_
  simp only [go_sem, Nat.reduceEqDiff, Nat.reduceAdd]
  refine hop _ _ _ (fun hok => ?_) (fun hok hM => ?_) (fun hok hM => ?_)
  · simp only [go_sem, Nat.reduceEqDiff]
    refine finDL_pan rfl rfl ((answer_pan rfl).mono fun σ' h => ?_)
    subst h
    exact ⟨_, rfl, [], rfl, rfl, res_mk (by simp only [specRows, hok]; rfl)⟩
  · simp only [go_sem, Nat.reduceEqDiff]
    refine finDL_pan rfl rfl ((answer_pan rfl).mono fun σ' h => ?_)
    subst h
    exact ⟨_, rfl, [], rfl, rfl, res_mk (by simp only [specRows, hok, hB, hM]; rfl)⟩
  have hb := (b.ok_iff).1 hok
  obtain ⟨b1, b2⟩ := isBoat_iff.1 hB
  obtain ⟨m1, m2⟩ := isMinute_iff.1 hM
  have hL := hb.L
  have hs : specRows b boat m = if canQ b (plainQ b boat.toNat) then (spanS b (canAt b (plainQ b boat.toNat) m.toNat), 0) else ((0, 0), 10) := by
    unfold specRows
    rw [hok, hB, hM]; rfl
  obtain ⟨B, rfl⟩ : ∃ n : Nat, boat = n := ⟨boat.toNat, by omega⟩
  obtain ⟨M, rfl⟩ : ∃ n : Nat, m = n := ⟨m.toNat, by omega⟩
  rw [Int.toNat_natCast, Int.toNat_natCast] at hs
  have h52 := told_ok b hb B (by omega) (MapOK.nil b) (clk := 0)
  unfold toldO at h52
  have hat := log_at hb (plainQ b B) (m := M) (by omega)
  have hz := canAt_lt hb (plainQ b B) M
  have hne : canQ b (plainQ b B) = true → canAt b (plainQ b B) M ≠ 0 := fun h => (canAt_ne0 hb _ (by omega)).2 ((canQ_iff hb _).1 h)
  have hlen := logQ_len hb (plainQ b B)
  rw [hs]
  unfold canAt at hz hne ⊢
  generalize canQ b (plainQ b B) = c at *
  generalize logQ b (plainQ b B) = LQ at *
  generalize LQ.getD M 0 = z at *
  have hM13 : (M : Int) < 13 := by omega
  simp only [go_sem, Nat.reduceEqDiff, Nat.reduceAdd, undef, beq_self_eq_true, undef]
  refine lend1 (m := 3) h52 rfl rfl rfl ?_
  rintro o a ⟨rfl, ks2, xs2, clk2, M2, rfl⟩
  cases c
  · simp only [go_sem, Nat.reduceEqDiff, Out.ren, AO.ren]
    refine finDL_pan rfl rfl ((answer_pan rfl).mono fun σ' h => ?_)
    subst h
    exact ⟨_, rfl, [], rfl, rfl, res_mk rfl⟩
  · have h55 := span_ok b hb (.map shQ ks2 xs2 clk2) z hz (hne rfl)
    simp only [tSp, spanS] at h55
    simp only [go_sem, Nat.reduceEqDiff, Nat.reduceLeDiff, Out.ren, E.ren, AO.ren, List.length_map, hlen, List.getElem?_map, hat, Option.map_some, hM13, Nat.mul_one]
    refine ACallL.quiet1 h55 rfl rfl rfl ?_
    simp only [go_sem, Nat.reduceEqDiff, Nat.reduceAdd, undef, undef]
    refine finDL_ret rfl rfl (answer_none.mono fun σ' h => ?_)
    subst h
    exact ⟨_, rfl, [], rfl, rfl, res_mk rfl⟩

set_option maxRecDepth 8000 in
set_option maxHeartbeats 4000000 in
theorem Nearest_ok (b : Bo) (hl : Lens b) (boat : Int) : ACall Tryd.prog 20 [.t (.agg (bo5 b)), .t (vi boat)] [] (res (spanE (specNearest b boat).1 (specNearest b boat).2)) := by
  refine ACall.walkD k20 ?_
  have h50 := isBoat_ok b hl boat
  have hop := fun is (σ : List AO) (R : Lz (Out → List AO → Prop)) h1 h2 h3 => openL (σ := σ) (R := R) b is hl h1 h2 h3
  unfold c20
  unfold bo5 at h50 hop ⊢
  simp only [go_sem, Nat.reduceEqDiff, Nat.reduceAdd]
  refine ACallL.quiet1 h50 rfl rfl rfl ?_
  simp only [go_sem, Nat.reduceEqDiff, Nat.reduceAdd]
  refine hop _ _ _ (fun hok => ?_) (fun hok hB => ?_) (fun hok hB => ?_)
  · simp only [go_sem, Nat.reduceEqDiff]
    refine finDL_pan rfl rfl ((answer_pan rfl).mono fun σ' h => ?_)
    subst h
    exact ⟨_, rfl, [], rfl, rfl, res_mk (by simp only [specNearest, hok]; rfl)⟩
  · simp only [go_sem, Nat.reduceEqDiff]
    refine finDL_pan rfl rfl ((answer_pan rfl).mono fun σ' h => ?_)
    subst h
    exact ⟨_, rfl, [], rfl, rfl, res_mk (by simp only [specNearest, hok, hB]; rfl)⟩
  have hb := (b.ok_iff).1 hok
  obtain ⟨b1, b2⟩ := isBoat_iff.1 hB
  have hs : specNearest b boat = if canQ b (plainQ b boat.toNat) then (nearS b boat.toNat, 0) else ((0, 0), 10) := by
    unfold specNearest
    rw [hok, hB]; rfl
  obtain ⟨B, rfl⟩ : ∃ n : Nat, boat = n := ⟨boat.toNat, by omega⟩
  rw [Int.toNat_natCast] at hs
  have h56 := nearest_ok b hb B (by omega) (MapOK.nil b) (clk := 0)
  unfold nearO at h56
  rw [hs]
  generalize canQ b (plainQ b B) = c at *
  generalize nearS b B = z at *
  obtain ⟨z1, z2⟩ := z
  simp only [tSp] at h56
  simp only [go_sem, Nat.reduceEqDiff, Nat.reduceAdd]
  refine lend1 (m := 3) h56 rfl rfl rfl ?_
  rintro o a ⟨rfl, ks2, xs2, clk2, M2, rfl⟩
  cases c
  · simp only [go_sem, Nat.reduceEqDiff, Out.ren, AO.ren]
    refine finDL_pan rfl rfl ((answer_pan rfl).mono fun σ' h => ?_)
    subst h
    exact ⟨_, rfl, [], rfl, rfl, res_mk rfl⟩
  · simp only [go_sem, Nat.reduceEqDiff, Nat.reduceAdd, undef, undef, Out.ren, E.ren, AO.ren]
    refine finDL_ret rfl rfl (answer_none.mono fun σ' h => ?_)
    subst h
    exact ⟨_, rfl, [], rfl, rfl, res_mk rfl⟩
end Go.Proofs.YtafcdpmcmmfbhaaDoor

/- Package boat: Broke, Speed. -/
namespace Go.Proofs.YtafcdpmcmmfbhaaDoor
open Go Go.Ab

def BrMid (b : Bo) (boat row : Int) (SB : Int × Int) (st : St) : Prop := ∃ z : Sp, SB = (brokeN z row, 0) ∧ lk st.env 2 = .t (vi row) ∧ lk st.env 6 = .t (vi 0) ∧ ∃ i j, lk st.env 7 = .ptr i 0 ∧ lk st.env 8 = .ptr j 0 ∧ i ≠ j ∧ st.σ[i]? = some (.cells [.t (vi 0)]) ∧ st.σ[j]? = some (.cells [.t (vi z.1), .t (vi z.2)]) ∧ st.df = [.call 48 [.ptr i 0]] ∧ st.k = 0

set_option maxRecDepth 8000 in
set_option maxHeartbeats 8000000 in
theorem Broke_ok (b : Bo) (hl : Lens b) (boat row : Int) : ACall Tryd.prog 22 [.t (.agg (bo5 b)), .t (vi boat), .t (vi row)] [] (res (oneE (specBroke b boat row).1 (specBroke b boat row).2)) := by
  refine ACall.walkD k22 ?_
  have h50 := isBoat_ok b hl boat
  have h58 := within_ok row 0 b.deep
  have hop := fun is (σ : List AO) (R : Lz (Out → List AO → Prop)) h1 h2 h3 => openL (σ := σ) (R := R) b is hl h1 h2 h3
  unfold c22
  unfold bo5 at h50 hop ⊢
  have good : ∀ (hok : b.ok = true) (hB : b.isBoat boat = true) (hM : wI row 0 b.deep = true), specBroke b boat row = if canQ b (plainQ b boat.toNat) then (brokeN (nearS b boat.toNat) row, 0) else (0, 10) := fun hok hB hM => by
    unfold specBroke
    rw [hok, hB, hM]; rfl
  have e1 : b.ok = false → specBroke b boat row = (0, 1) := fun h => by unfold specBroke; rw [h]; rfl
  have e2 : b.ok = true → (b.isBoat boat && wI row 0 b.deep) = false → specBroke b boat row = (0, 2) := fun h h2 => by unfold specBroke; rw [h, h2]; rfl
  generalize specBroke b boat row = SB at *
  cases hB : b.isBoat boat
  · rw [hB] at h50 good e2
    simp only [go_sem, Nat.reduceEqDiff, Nat.reduceAdd]
    repeat' (first | refine AndL.mk ?_ ?_ | refine ACallL.quiet1 h50 rfl rfl rfl ?_ | simp only [go_sem, Nat.reduceEqDiff, Nat.reduceAdd, undef, undef])
    all_goals
      refine hop _ _ _ (fun hok => ?_) (fun hok _ => ?_) (fun hok h => by cases h)
      · rw [e1 hok]
        simp only [go_sem, Nat.reduceEqDiff]
        refine finDL_pan rfl rfl ((answer_pan rfl).mono fun σ' h => ?_)
        subst h
        exact ⟨_, rfl, [], rfl, rfl, res_mk rfl⟩
      · rw [e2 hok rfl]
        simp only [go_sem, Nat.reduceEqDiff]
        refine finDL_pan rfl rfl ((answer_pan rfl).mono fun σ' h => ?_)
        subst h
        exact ⟨_, rfl, [], rfl, rfl, res_mk rfl⟩
  rw [hB] at h50 e2
  cases hM : wI row 0 b.deep
  · rw [hM] at h58 e2
    simp only [go_sem, Nat.reduceEqDiff, Nat.reduceAdd]
    repeat' (first | refine AndL.mk ?_ ?_ | refine ACallL.quiet1 h50 rfl rfl rfl ?_ | refine ACallL.quiet1 h58 rfl rfl rfl ?_ | simp only [go_sem, Nat.reduceEqDiff, Nat.reduceAdd, Nat.reduceLeDiff, undef, beq_self_eq_true, undef])
    all_goals
      refine hop _ _ _ (fun hok => ?_) (fun hok _ => ?_) (fun hok h => by cases h)
      · rw [e1 hok]
        simp only [go_sem, Nat.reduceEqDiff]
        refine finDL_pan rfl rfl ((answer_pan rfl).mono fun σ' h => ?_)
        subst h
        exact ⟨_, rfl, [], rfl, rfl, res_mk rfl⟩
      · rw [e2 hok rfl]
        simp only [go_sem, Nat.reduceEqDiff]
        refine finDL_pan rfl rfl ((answer_pan rfl).mono fun σ' h => ?_)
        subst h
        exact ⟨_, rfl, [], rfl, rfl, res_mk rfl⟩
  rw [hM] at h58
  refine awpL_chop 3 (c1 := ?a1) (c2 := ?a2) (BrMid b boat row SB) ?hc ?_ ?_
  case hc => simp only [chop]; rfl
  · simp only [go_sem, Nat.reduceEqDiff, Nat.reduceAdd]
    repeat' (first | refine AndL.mk ?_ ?_ | refine ACallL.quiet1 h50 rfl rfl rfl ?_ | refine ACallL.quiet1 h58 rfl rfl rfl ?_ | simp only [go_sem, Nat.reduceEqDiff, Nat.reduceAdd, Nat.reduceLeDiff, undef, beq_self_eq_true, undef])
    all_goals
      refine hop _ _ _ (fun hok => ?_) (fun _ h => by cases h) (fun hok _ => ?_)
      · rw [e1 hok]
        simp only [go_sem, Nat.reduceEqDiff]
        refine finDL_pan rfl rfl ((answer_pan rfl).mono fun σ' h => ?_)
        subst h
        exact ⟨_, rfl, [], rfl, rfl, res_mk rfl⟩
      have hb := (b.ok_iff).1 hok
      obtain ⟨b1, b2⟩ := isBoat_iff.1 hB
      have hs := good hok hB hM
      obtain ⟨B, rfl⟩ : ∃ n : Nat, boat = n := ⟨boat.toNat, by omega⟩
      rw [Int.toNat_natCast] at hs
      have h56 := nearest_ok b hb B (by omega) (MapOK.nil b) (clk := 0)
      unfold nearO at h56
      clear good e1 e2
      subst hs
      generalize hcq : canQ b (plainQ b B) = c at *
      generalize nearS b B = z at *
      obtain ⟨z1, z2⟩ := z
      simp only [tSp] at h56
      repeat' (first | refine AndL.mk ?_ ?_ | simp only [go_sem, Nat.reduceEqDiff, Nat.reduceAdd, Nat.reduceLeDiff, undef, beq_self_eq_true, undef])
      all_goals
        first
        | refine lend1 (m := 3) h56 rfl rfl rfl ?_
        | refine lend1 (m := 2) h56 rfl rfl rfl ?_
        rintro o a ⟨rfl, ks2, xs2, clk2, M2, rfl⟩
        cases c
        · simp only [go_sem, Nat.reduceEqDiff, Out.ren, AO.ren]
          refine finDL_pan rfl rfl ((answer_pan rfl).mono fun σ' h => ?_)
          subst h
          exact ⟨_, rfl, [], rfl, rfl, res_mk rfl⟩
        · simp only [go_sem, Nat.reduceEqDiff, Nat.reduceAdd, Nat.reduceLeDiff, undef, beq_self_eq_true, undef, Out.ren, E.ren, AO.ren]
          exact ⟨(z1, z2), rfl, rfl, rfl, _, _, rfl, rfl, by decide, rfl, rfl, rfl, rfl⟩
  rintro ⟨env, σ, df, k⟩ ⟨⟨z1, z2⟩, rfl, q2, q6, i, j, q7, q8, hij, hi, hj, hdf, hk⟩
  simp only at q2 q6 q7 q8 hi hj hdf hk
  subst hdf hk
  have hlt : i < σ.length := (List.getElem?_eq_some_iff.1 hi).1
  have hij' : ¬ j = i := fun h => hij h.symm
  unfold brokeN
  cases c1 : decide (z2 < row)
  · cases c2 : decide (z1 ≥ row)
    · rw [if_neg (of_decide_eq_false c1), if_neg (of_decide_eq_false c2)]
      simp only [go_sem, Nat.reduceEqDiff, Nat.reduceAdd, Nat.reduceLeDiff, undef, undef, q2, q7, q8, hi, hj, c1, c2]
      refine finDL_ret rfl rfl (answer_none.mono fun σ' h => ?_)
      subst h
      refine ⟨.tup [.t (vi 1), .t (vi 0)], ?_, [], rfl, rfl, res_mk rfl⟩
      simp only [go_sem, Nat.reduceEqDiff, resV, resEs, lk, q7, List.getElem?_set_self hlt]
    · rw [if_neg (of_decide_eq_false c1), if_pos (of_decide_eq_true c2)]
      simp only [go_sem, Nat.reduceEqDiff, Nat.reduceAdd, Nat.reduceLeDiff, undef, undef, q2, q7, q8, hi, hj, c1, c2]
      refine finDL_ret rfl rfl (answer_none.mono fun σ' h => ?_)
      subst h
      refine ⟨.tup [.t (vi 0), .t (vi 0)], ?_, [], rfl, rfl, res_mk rfl⟩
      simp only [go_sem, Nat.reduceEqDiff, resV, resEs, lk, q7, List.getElem?_set_self hlt]
  · rw [if_pos (of_decide_eq_true c1)]
    simp only [go_sem, Nat.reduceEqDiff, Nat.reduceAdd, undef, undef, q2, q7, q8, hi, hj, c1]
    refine finDL_ret rfl rfl (answer_none.mono fun σ' h => ?_)
    subst h
    refine ⟨.tup [.t (vi 2), .t (vi 0)], ?_, [], rfl, rfl, res_mk rfl⟩
    simp only [go_sem, Nat.reduceEqDiff, resV, resEs, lk, q7, List.getElem?_set_self hlt]
def SpMid (SB : Int × Int) (st : St) : Prop := ∃ r : Option Nat, (SB = match r with | some n => ((n : Nat), 0) | none => (0, 4)) ∧ lk st.env 4 = .t (vi 0) ∧ (lk st.env 7 = match r with | some n => .t (vi n) | none => .t (vi 0)) ∧ (lk st.env 8 = match r with | some n => .t (vb true) | none => .t (vb false)) ∧ lk st.env 5 = .ptr 0 0 ∧ (∃ a, st.σ = [.cells [.t (vi 0)], a]) ∧ st.df = [.call 48 [.ptr 0 0]] ∧ st.k = 0
set_option maxRecDepth 8000 in
set_option maxHeartbeats 8000000 in
theorem Speed_ok (b : Bo) (hl : Lens b) (boat : Int) : ACall Tryd.prog 28 [.t (.agg (bo5 b)), .t (vi boat)] [] (res (oneE (specSpeed b boat).1 (specSpeed b boat).2)) := by
  refine ACall.walkD k28 ?_
  have h50 := isBoat_ok b hl boat
  have h70 := upTo_ok 3 (by decide)
  have hop := fun is (σ : List AO) (R : Lz (Out → List AO → Prop)) h1 h2 h3 => openL (σ := σ) (R := R) b is hl h1 h2 h3
  unfold c28
  unfold bo5 at h50 hop ⊢
  have good : ∀ (hok : b.ok = true) (hB : b.isBoat boat = true), specSpeed b boat = match speedR b boat.toNat with | some n => ((n : Nat), 0) | none => (0, 4) := fun hok hB => by
    unfold specSpeed
    rw [hok, hB]; rfl
  have e1 : b.ok = false → specSpeed b boat = (0, 1) := fun h => by unfold specSpeed; rw [h]; rfl
  have e2 : b.ok = true → b.isBoat boat = false → specSpeed b boat = (0, 2) := fun h h2 => by unfold specSpeed; rw [h, h2]; rfl
  generalize specSpeed b boat = SB at *
  refine awpL_chop 4 (c1 := ?a1) (c2 := ?a2) (SpMid SB) ?hc ?_ ?_
  case hc => simp only [chop]; rfl
  · simp only [go_sem, Nat.reduceEqDiff, Nat.reduceAdd]
    repeat' (first | refine AndL.mk ?_ ?_ | refine ACallL.quiet1 h50 rfl rfl rfl ?_ | simp only [go_sem, Nat.reduceEqDiff, Nat.reduceAdd])
    all_goals
      refine hop _ _ _ (fun hok => ?_) (fun hok hB => ?_) (fun hok hB => ?_)
      · rw [e1 hok]
        simp only [go_sem, Nat.reduceEqDiff]
        refine finDL_pan rfl rfl ((answer_pan rfl).mono fun σ' h => ?_)
        subst h
        exact ⟨_, rfl, [], rfl, rfl, res_mk rfl⟩
      · rw [e2 hok hB]
        simp only [go_sem, Nat.reduceEqDiff]
        refine finDL_pan rfl rfl ((answer_pan rfl).mono fun σ' h => ?_)
        subst h
        exact ⟨_, rfl, [], rfl, rfl, res_mk rfl⟩
      have hb := (b.ok_iff).1 hok
      obtain ⟨b1, b2⟩ := isBoat_iff.1 hB
      have hs := good hok hB
      obtain ⟨B, rfl⟩ : ∃ n : Nat, boat = n := ⟨boat.toNat, by omega⟩
      rw [Int.toNat_natCast] at hs
      have hfi := first_ok b 71 (fun n => canQ b (speedQ B n)) (List.range 4) (by decide) (boxB B)
        (fun n hn ks xs clk M => trySpeed_ok b hb B (by omega) n (by have := List.mem_range.1 hn; omega) M) (MapOK.nil b) (clk := 0)
      rw [show (List.range 4).find? (fun n => canQ b (speedQ B n)) = speedR b B from rfl] at hfi
      clear good e1 e2
      subst hs
      generalize speedR b B = r at *
      repeat' (first | refine AndL.mk ?_ ?_ | simp only [go_sem, Nat.reduceEqDiff, Nat.reduceAdd, undef, undef])
      all_goals
        first
        | refine awpL_gcpE [2, 3] [3, 4, 5, 6] { env := [(3, .t (boxB B)), (4, .t (vi 0)), (5, .ptr 0 0), (6, .vp [waE b 1] 0)], σ := [.cells [.t (vi 0)], .map shQ [] [] 0], df := [.call 48 [.ptr 0 0]], k := 0 } (St.gc_mk rfl rfl rfl rfl) rfl rfl ?_
        | refine awpL_gcpE [2, 4] [3, 4, 5, 6] { env := [(3, .t (boxB B)), (4, .t (vi 0)), (5, .ptr 0 0), (6, .vp [waE b 1] 0)], σ := [.cells [.t (vi 0)], .map shQ [] [] 0], df := [.call 48 [.ptr 0 0]], k := 0 } (St.gc_mk rfl rfl rfl rfl) rfl rfl ?_
        simp only [go_sem]
        refine ACallL.fresh1 h70 rfl ?_
        simp only [go_sem, Nat.reduceEqDiff, Nat.reduceAdd]
        refine lend1 (m := 1) hfi rfl rfl rfl ?_
        rintro o a ⟨rfl, ks2, xs2, clk2, M2, rfl⟩
        cases r
        all_goals
          simp only [firstO, go_sem, Nat.reduceEqDiff, Out.ren, E.ren, E.rens, AO.ren]
          first
          | exact ⟨none, rfl, rfl, rfl, rfl, rfl, ⟨_, rfl⟩, rfl, rfl⟩
          | exact ⟨some _, rfl, rfl, rfl, rfl, rfl, ⟨_, rfl⟩, rfl, rfl⟩
  rintro ⟨env, σ, df, k⟩ ⟨r, rfl, q4, q7, q8, q5, ⟨a, hσ⟩, hdf, hk⟩
  simp only at q4 q7 q8 q5 hσ hdf hk
  subst hσ hdf hk
  cases r with
  | none =>
    simp only at q7 q8
    simp only [go_sem, q8]
    refine ACallL.quiet1 (ask_ok false 4) rfl rfl rfl ?_
    simp only [askO, go_sem, Nat.reduceEqDiff, q4, q5]
    refine finDL_pan rfl rfl ((answer_pan rfl).mono fun σ' h => ?_)
    subst h
    exact ⟨_, rfl, [], rfl, rfl, res_mk rfl⟩
  | some n =>
    simp only at q7 q8
    simp only [go_sem, q8]
    refine ACallL.quiet1 (ask_ok true 4) rfl rfl rfl ?_
    simp only [askO, go_sem, Nat.reduceEqDiff, undef, undef, q5, q7]
    refine finDL_ret rfl rfl (answer_none.mono fun σ' h => ?_)
    subst h
    refine ⟨.tup [.t (vi n), .t (vi 0)], ?_, [], rfl, rfl, res_mk rfl⟩
    simp only [go_sem, Nat.reduceEqDiff, resV, resEs, lk, q5]
end Go.Proofs.YtafcdpmcmmfbhaaDoor
