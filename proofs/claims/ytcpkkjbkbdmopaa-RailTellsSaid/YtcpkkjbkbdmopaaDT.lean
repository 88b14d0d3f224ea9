/- Proved here: laws that the statements need (RaT7). No conditions but those that each law states. -/
import Derived.Test.YtcpkkjbkbdmopaaDS
import Derived.Test.YtcpkkjbkbdmopaaDM

set_option linter.unusedSimpArgs false
set_option linter.unusedVariables false

/- The reference's Wet and Latest. -/
namespace Go.Proofs.Ytcpkkjbkbdmopaa
open Go Go.Ab

set_option maxRecDepth 8000 in
set_option maxHeartbeats 4000000 in
theorem qWet_ok (r : Ra) (i : Int) (hL : r.lines.length < 9223372036854775808) : ACall Try.prog 28 [.t (tRa r), .t (vi i)] [] (res (spanE (specWet r i).1 (specWet r i).2)) := by
  have hc := qcheck_ok r hL (r.isH i)
  have hi := qhour_ok r i
  have hw0 := fun (hr : r.OK) h hh => qwet_ok r hr h hh
  refine ACall.walk k28 ?_
  unfold c28
  unfold tRa at hc hi hw0 ⊢
  unfold tw3 ra7 at hc hi hw0 ⊢
  simp only [List.cons_append, List.nil_append] at hc hi hw0
  simp only [go_sem, Nat.reduceEqDiff, Nat.reduceAdd]
  refine ACallL.quiet1 hi rfl rfl rfl ?_
  simp only [go_sem, Nat.reduceEqDiff, Nat.reduceAdd]
  refine ACallL.quiet1 hc rfl rfl rfl ?_
  cases hok : r.ok
  · have e : chk r (r.isH i) = 1 := by unfold chk; rw [hok]; rfl
    rw [e]
    simp only [go_sem, Nat.reduceEqDiff, Nat.reduceAdd, Int.reduceBNe, undef]
    exact finL_ret [] ⟨rfl, rfl, rfl, rfl, _, rfl, res_mk (by unfold specWet; rw [hok]; rfl)⟩
  cases hh : r.isH i
  · have e : chk r false = 2 := by unfold chk; rw [hok]; rfl
    rw [e]
    simp only [go_sem, Nat.reduceEqDiff, Nat.reduceAdd, Int.reduceBNe, undef]
    exact finL_ret [] ⟨rfl, rfl, rfl, rfl, _, rfl, res_mk (by unfold specWet; rw [hok, hh]; rfl)⟩
  have e : chk r true = 0 := by unfold chk; rw [hok]; rfl
  rw [e]
  have hr := (r.ok_iff).1 hok
  obtain ⟨n, rfl, hn⟩ := isH_nat hr hh
  have hw := hw0 hr n hn
  simp only [go_sem, Nat.reduceEqDiff, Nat.reduceAdd, bne_self_eq_false]
  refine ACallL.quiet1 hw rfl rfl rfl ?_
  simp only [tS, go_sem, Nat.reduceEqDiff, Nat.reduceAdd, undef]
  exact finL_ret [] ⟨rfl, rfl, rfl, rfl, _, rfl, res_mk (by unfold specWet; rw [hok, hh]; rfl)⟩

set_option maxRecDepth 8000 in
set_option maxHeartbeats 4000000 in
theorem qLatest_ok (r : Ra) (much i : Int) (hL : r.lines.length < 9223372036854775808) : ACall Try.prog 30 [.t (tRa r), .t (vi much), .t (vi i)] [] (res (oneE (specLatest r much i).1 (specLatest r much i).2)) := by
  have hc := qcheck_ok r hL (r.isH i && wI much 1 8)
  have hi := qhour_ok r i
  have hm := qin_ok much 1 8
  have hw0 := fun hr => rweathers_ok r hr
  have hf0 := fun (hr : r.OK) w a b hw hb => rdried_ok r hr w a b hw hb
  refine ACall.walk k30 ?_
  unfold c30
  refine awpL_chop 3 (c1 := ?a1) (c2 := ?a2) (fun st => r.ok = true ∧ r.isH i = true ∧ wI much 1 8 = true ∧ lk st.env 1 = .t (vi much) ∧ lk st.env 2 = .t (vi i) ∧ lk st.env 3 = .ptr 0 0 ∧
    st.σ = [.cells ((tw3 r.tw ++ ra7 r).map .t)] ∧ st.df = [] ∧ st.k = 0) ?hc ?_ ?_
  case hc => simp only [chop]; rfl
  · unfold tRa at hc hi ⊢
    unfold tw3 ra7 at hc hi ⊢
    simp only [List.cons_append, List.nil_append] at hc hi
    simp only [go_sem, Nat.reduceEqDiff, Nat.reduceAdd]
    refine ACallL.quiet1 hi rfl rfl rfl ?_
    cases hh : r.isH i
    · rw [hh, Bool.false_and] at hc
      simp only [go_sem, Nat.reduceEqDiff, Nat.reduceAdd, undef]
      refine ACallL.quiet1 hc rfl rfl rfl ?_
      cases hok : r.ok
      · have e : chk r false = 1 := by unfold chk; rw [hok]; rfl
        rw [e]
        simp only [go_sem, Nat.reduceEqDiff, Nat.reduceAdd, Int.reduceBNe]
        exact finL_ret [] ⟨rfl, rfl, rfl, rfl, _, rfl, res_mk (by unfold specLatest; rw [hok]; rfl)⟩
      · have e : chk r false = 2 := by unfold chk; rw [hok]; rfl
        rw [e]
        simp only [go_sem, Nat.reduceEqDiff, Nat.reduceAdd, Int.reduceBNe]
        exact finL_ret [] ⟨rfl, rfl, rfl, rfl, _, rfl, res_mk (by unfold specLatest; rw [hok, hh]; rfl)⟩
    rw [hh, Bool.true_and] at hc
    simp only [go_sem, Nat.reduceEqDiff, Nat.reduceAdd, beq_self_eq_true]
    refine ACallL.quiet1 hm rfl rfl rfl ?_
    simp only [go_sem, Nat.reduceEqDiff, Nat.reduceAdd]
    refine ACallL.quiet1 hc rfl rfl rfl ?_
    cases hok : r.ok
    · have e : chk r (wI much 1 8) = 1 := by unfold chk; rw [hok]; rfl
      rw [e]
      simp only [go_sem, Nat.reduceEqDiff, Nat.reduceAdd, Int.reduceBNe]
      exact finL_ret [] ⟨rfl, rfl, rfl, rfl, _, rfl, res_mk (by unfold specLatest; rw [hok]; rfl)⟩
    cases hmm : wI much 1 8
    · have e : chk r false = 2 := by unfold chk; rw [hok]; rfl
      rw [e]
      simp only [go_sem, Nat.reduceEqDiff, Nat.reduceAdd, Int.reduceBNe]
      exact finL_ret [] ⟨rfl, rfl, rfl, rfl, _, rfl, res_mk (by unfold specLatest; rw [hok, hh, hmm]; rfl)⟩
    have e : chk r true = 0 := by unfold chk; rw [hok]; rfl
    rw [e]
    simp only [go_sem, Nat.reduceEqDiff, Nat.reduceAdd, bne_self_eq_false, and_self]
  rintro ⟨env, σ, df, k⟩ ⟨hok, hh, hmm, q1, q2, q3, hσ, hdf, hk⟩
  simp only at q1 q2 q3 hσ hdf hk
  subst hσ hdf hk
  have hr := (r.ok_iff).1 hok
  obtain ⟨n, rfl, hn⟩ := isH_nat hr hh
  obtain ⟨m, rfl, hm1, hm8⟩ : ∃ m : Nat, much = m ∧ 1 ≤ m ∧ m ≤ 8 := by
    have := of_decide_eq_true hmm
    exact ⟨much.toNat, by omega, by omega, by omega⟩
  have hs := specLatest_at hr hok ⟨hm1, hm8⟩ hn
  obtain ⟨g1, g2, g3⟩ := hr.H
  have hp12 : 2 ^ r.H ≤ 2 ^ 12 := Nat.pow_le_pow_right (by omega) g2
  have hwl := wtsL_len r (2 ^ r.H)
  have hwt := fun (j s : Nat) (h : (wtsL r (2 ^ r.H))[j]? = some s) => wts_lt hr (List.mem_of_getElem? h)
  have hse := fun a => sure_eq r hr m a n hn
  have hw := hw0 hr
  have hf := fun w a hw => hf0 hr w a n hw (by omega)
  clear hw0 hf0
  have hnt : (tNs (wtsL r (2 ^ r.H))).length = (wtsL r (2 ^ r.H)).length := by simp [tNs]
  have hgt : ∀ j, (tNs (wtsL r (2 ^ r.H)))[j]? = ((wtsL r (2 ^ r.H))[j]?).map fun n : Nat => vi n := fun j => by unfold tNs; rw [List.getElem?_map]
  generalize wtsL r (2 ^ r.H) = W at *
  unfold tRa at hw hf
  unfold tw3 ra7 at hw hf ⊢
  simp only [List.cons_append, List.nil_append] at hw hf
  have wn : IntKind.i64.wrap ((n : Int) - 1) = (n : Int) - 1 := wrap_id (by omega) (by omega)
  simp only [go_sem, Nat.reduceAdd, q3]
  refine ACallL.fresh1 hw rfl ?_
  simp only [go_sem, Nat.reduceEqDiff, q2, wn]
  refine awpL_loopK n (fun k s => (∀ a, n - k ≤ a → a < n → ¬ m ≤ driedN (r.f true) a n) ∧ s = { env := [(10, .t (vi ((n : Int) - 1 - k))), (1, .t (vi m)), (2, .t (vi n)), (3, .t (.ptr (tRa r) 0)), (9, .t (.slice 1 (tNs W)))], σ := [] })
    ⟨_, Sub.gc [] [10, 1, 2, 3, 9] rfl rfl, fun a h1 h2 => by omega, ?_⟩ ?_
  · refine St.gc_mk ?_ rfl rfl rfl
    rw [show (n : Int) - 1 - ((0 : Nat) : Int) = (n : Int) - 1 by omega]
    simp only [go_sem, Nat.reduceEqDiff, List.map_cons, List.map_nil, q1, q2, q3]
    rfl
  rintro k s hk ⟨hno, rfl⟩
  unfold tRa tw3 ra7
  cases g : decide ((n : Int) - 1 - k ≥ 0)
  · have he : k = n := by have := of_decide_eq_false g; omega
    subst he
    simp only [go_sem, Nat.reduceEqDiff, g]
    refine finL_ret [] ⟨rfl, rfl, rfl, rfl, _, rfl, res_mk ?_⟩
    rw [hs]
    cases hl : r.late m k with
    | none => rfl
    | some a =>
      obtain ⟨h1, h2, h3⟩ := revfind_some hl
      exact absurd (of_decide_eq_true h2) (hno a (by omega) h1)
  have hkn : k < n := by have := of_decide_eq_true g; omega
  obtain ⟨a, ha⟩ : ∃ a, a + k + 1 = n := ⟨n - 1 - k, by omega⟩
  have hak : (n : Int) - 1 - k = a := by omega
  rw [hak] at g ⊢
  have w1 : IntKind.i64.wrap ((a : Int) - 1) = (n : Int) - 1 - ((k + 1 : Nat) : Int) := by rw [wrap_id (by omega) (by omega)]; omega
  simp only [go_sem, Nat.reduceEqDiff, decide_true]
  refine awpL_loopK W.length (fun j s => s = { env := [(12, .t (vi j)), (11, .t (vb (sureN r m a n (W.take j)))), (10, .t (vi a)), (1, .t (vi m)), (2, .t (vi n)), (3, .t (.ptr (tRa r) 0)), (9, .t (.slice 1 (tNs W)))], σ := [] })
    ⟨_, Sub.gc [] [12, 11, 10, 1, 2, 3, 9] rfl rfl, St.gc_mk rfl rfl rfl rfl⟩ ?_
  rintro j s hj rfl
  unfold tRa tw3 ra7
  have w2 : IntKind.i64.wrap ((j : Int) + 1) = ((j + 1 : Nat) : Int) := by rw [wrap_id (by omega) (by omega)]; omega
  have hj0 : ((j : Int) < 0) = False := eq_false (by omega)
  cases c : decide ((j : Int) < (W.length : Int))
  · have he : j = W.length := by have := of_decide_eq_false c; omega
    subst he
    rw [List.take_length, hse]
    cases d : decide (m ≤ driedN (r.f true) a n)
    · simp only [go_sem, Nat.reduceEqDiff, c, hnt, w1]
      refine ⟨hkn, _, Sub.gc [] [10, 1, 2, 3, 9] rfl rfl, fun b h1 h2 => ?_, St.gc_mk rfl rfl rfl rfl⟩
      by_cases e : b = a
      · subst e; exact of_decide_eq_false d
      · exact hno b (by omega) h2
    · simp only [go_sem, Nat.reduceEqDiff, c, hnt, w1]
      refine finL_ret [] ⟨rfl, rfl, rfl, rfl, _, rfl, res_mk ?_⟩
      rw [hs]
      have hd := of_decide_eq_true d
      cases hl : r.late m n with
      | none =>
        have := revfind_none hl a (by omega)
        rw [decide_eq_false_iff_not] at this
        exact absurd hd this
      | some b =>
        obtain ⟨h1, h2, h3⟩ := revfind_some hl
        have h2 := of_decide_eq_true h2
        have : b = a := by
          rcases Nat.lt_trichotomy a b with h | h | h
          · exact absurd h2 (hno b (by omega) h1)
          · exact h.symm
          · have := h3 a h (by omega)
            rw [decide_eq_false_iff_not] at this
            exact absurd hd this
        subst this
        rfl
  have hlt : j < W.length := by have := of_decide_eq_true c; omega
  have hx : W[j]? = some W[j] := List.getElem?_eq_getElem hlt
  have hy := hwt j _ hx
  rw [sure_succ r m a n W hx]
  generalize W[j] = y at *
  have hff := hf y a hy
  have hD : decide (((driedN (dr r.S y) a n : Nat) : Int) ≥ (m : Int)) = decide (m ≤ driedN (dr r.S y) a n) := decide_eq_decide.2 (by omega)
  generalize driedN (dr r.S y) a n = D at *
  generalize sureN r m a n (W.take j) = b at *
  cases b
  · simp only [go_sem, Nat.reduceEqDiff, undef, Bool.false_and, c, hnt, w2]
    exact ⟨hlt, _, Sub.gc [] [12, 11, 10, 1, 2, 3, 9] rfl rfl, St.gc_mk rfl rfl rfl rfl⟩
  · simp only [go_sem, Nat.reduceEqDiff, Nat.reduceAdd, beq_self_eq_true, c, hnt, hgt, hx, Option.map_some]
    refine ACallL.quiet1 hff rfl rfl rfl ?_
    simp only [go_sem, Nat.reduceEqDiff, undef, beq_self_eq_true, Bool.true_and, hgt, hx, Option.map_some, w2, hD, Bool.true_and]
    exact ⟨hlt, _, Sub.gc [] [12, 11, 10, 1, 2, 3, 9] rfl rfl, St.gc_mk rfl rfl rfl rfl⟩
end Go.Proofs.Ytcpkkjbkbdmopaa
