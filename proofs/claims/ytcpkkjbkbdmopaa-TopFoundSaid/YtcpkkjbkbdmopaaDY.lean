/- Proved here: laws that the statements need (RaU5). No conditions but those that each law states. -/
import Derived.Test.YtcpkkjbkbdmopaaDX
import Derived.Test.YtcpkkjbkbdmopaaDM

set_option linter.unusedSimpArgs false
set_option linter.unusedVariables false

/- TopFound: a towel that is found is no longer missing. -/
namespace Go.Proofs.Ytcpkkjbkbdmopaa
open Go Go.Ab

theorem alive11L {σ : List AO} {R : Lz (Out → List AO → Prop)} (h : R.get (.ret (.t (vb true))) σ) : @ACallL Try.prog 13 [] σ R := ACallL.fresh1 alive11_ok rfl h
theorem specKept_at {t : Tw} (ht : t.OK) {n : Nat} (hn : n < t.bs.length) : specKept t n = if isT t then (keptOf t n, 0) else ((0, 0), 10) := by
  have hh : t.isB n = true := decide_eq_true (by omega)
  unfold specKept
  rw [(t.ok_iff).2 ht, if_pos rfl, hh, if_pos rfl]
  rfl
theorem specOwes_at {r : Ra} (hok : r.ok = true) {n : Nat} (hn : n < r.tw.bs.length) (hT : isT r.tw = true) : specOwes r n = (((keptOf r.tw n).1 * r.price, (keptOf r.tw n).2 * r.price), 0) := by
  have hh : r.tw.isB n = true := decide_eq_true (by omega)
  unfold specOwes ans
  rw [hok, hh, hT]
  rfl

/-- Behind what is told of all at first. -/
def FoA (r : Ra) (kept hour i : Nat) (s : St) : Prop := r.ok = true ∧ isT r.tw = true ∧ i < r.tw.bs.length ∧ hour ≤ r.H ∧ lk s.env 2 = .t (.lit (.int .u8 kept)) ∧ lk s.env 4 = .ptr 0 0 ∧ lk s.env 9 = .t (vi hour) ∧ lk s.env 10 = .t (vi i) ∧
  lk s.env 11 = .ptr 1 0 ∧ lk s.env 13 = .ptr 2 0 ∧ lk s.env 15 = .ptr 3 0 ∧
  s.σ = [.cells ((tw3 r.tw ++ ra7 r).map .t), .cells [.t (vi (max 0 (r.ready hour).1)), .t (vi (max 0 (r.ready hour).2))], .cells [.t (vi r.all.1), .t (vi r.all.2)], .cells [.t (vi (keptOf r.tw i).1), .t (vi (keptOf r.tw i).2)]] ∧ s.df = [] ∧ s.k = 0

set_option maxRecDepth 8000 in
set_option maxHeartbeats 8000000 in
theorem TopFound_ok (r : Ra) (hL : Lens r) (which : Nat) (hw1 : which < 256) (kept : Nat) (hw2 : kept < 256) (at_ : Nat) (hw3 : at_ < 256) : ACall Try.prog 3 [.t (tRa r), .t (.lit (.int .u8 which)), .t (.lit (.int .u8 kept)), .t (.lit (.int .u8 at_))] [] (ret (vb true)) := by
  refine ACall.walk k3 ?_
  have hrail := rrail_ok r hL.l
  unfold c3
  refine awpL_chop 8 (c1 := ?a1) (c2 := ?a2) (fun s => ∃ hour i, FoA r kept hour i s) ?hc ?_ ?_
  case hc => simp only [chop]; rfl
  · have hR0 := fun h => Ready_ok r h hL
    have hA0 := All_ok r.tw
    have hK0 := fun i => Kept_ok r.tw i hL.b
    have hlen : r.long = decide (max (max (max (r.lines.length : Int) r.tw.bs.length) r.tw.hs.length) r.tw.vs.length > 40) := rfl
    have e1 : IntKind.i64.wrap (which : Int) = which := wrap_id (by omega) (by omega)
    have e2 : IntKind.i64.wrap (at_ : Int) = at_ := wrap_id (by omega) (by omega)
    unfold tRa at hrail hR0 ⊢
    unfold tw3 at hA0 hK0
    unfold tw3 ra7 at hrail hR0 ⊢
    simp only [List.cons_append, List.nil_append] at hrail hR0
    cases h1 : r.long
    rotate_left
    · rw [hlen] at h1
      simp only [go_sem, Nat.reduceEqDiff, Nat.reduceAdd, Nat.reduceLeDiff, Bool.not_true, undef, List.length_map, h1]
      refine alive11L ?_
      simp only [go_sem, Nat.reduceEqDiff]
      exact finL_ret [] ⟨rfl, rfl, rfl, rfl, _, rfl, ret_mk rfl⟩
    rw [hlen] at h1
    simp only [go_sem, Nat.reduceEqDiff, Nat.reduceAdd, Nat.reduceLeDiff, beq_self_eq_true, List.length_map, h1]
    refine ACallL.quiet1 hrail rfl rfl rfl ?_
    cases hok : r.ok
    · simp only [go_sem, Nat.reduceEqDiff, Bool.not_true, Bool.not_false, undef, beq_self_eq_true]
      refine alive11L ?_
      simp only [go_sem, Nat.reduceEqDiff]
      exact finL_ret [] ⟨rfl, rfl, rfl, rfl, _, rfl, ret_mk rfl⟩
    have hr := (r.ok_iff).1 hok
    obtain ⟨g1, g2, g3⟩ := hr.H
    have nb := hr.tw.nb
    cases h0 : ((r.tw.bs.length : Int) == 0)
    rotate_left
    · simp only [go_sem, Nat.reduceEqDiff, Nat.reduceAdd, Nat.reduceLeDiff, Bool.not_true, beq_self_eq_true, List.length_map, h0]
      refine alive11L ?_
      simp only [go_sem, Nat.reduceEqDiff]
      exact finL_ret [] ⟨rfl, rfl, rfl, rfl, _, rfl, ret_mk rfl⟩
    have h0n : (r.tw.bs.length : Int) ≠ 0 := fun e => by rw [e] at h0; cases h0
    have z1 : ((r.tw.bs.length : Int) = 0) = False := eq_false h0n
    have e3 : IntKind.i64.wrap (r.hours + 1) = ((r.H + 1 : Nat) : Int) := by rw [g3, wrap_id (by omega) (by omega)]; omega
    have e4 : (((r.H + 1 : Nat) : Int) = 0) = False := eq_false (by omega)
    simp only [go_sem, Nat.reduceEqDiff, Nat.reduceAdd, Nat.reduceLeDiff, Bool.not_true, beq_self_eq_true, List.length_map, h0, e1, e2, e3, e4, z1, mod_nat]
    have hh : at_ % (r.H + 1) ≤ r.H := by have := Nat.mod_lt at_ (show 0 < r.H + 1 by omega); omega
    have hi : which % r.tw.bs.length < r.tw.bs.length := Nat.mod_lt _ (by omega)
    generalize at_ % (r.H + 1) = hour at *
    generalize which % r.tw.bs.length = i at *
    have hR := hR0 hour
    have hK := hK0 i
    rw [specReady_at hr hok hh] at hR
    rw [specAll_at hr] at hA0
    rw [specKept_at hr.tw hi] at hK
    cases hT : isT r.tw
    · rw [hT] at hR hA0 hK
      simp only [Bool.false_eq_true, if_false] at hR hA0 hK
      refine ACallL.quiet1 hR rfl rfl rfl ?_
      simp only [spanE, tS, go_sem, Nat.reduceEqDiff, Nat.reduceAdd, Nat.reduceLeDiff, undef]
      refine ACallL.quiet1 hA0 rfl rfl rfl ?_
      simp only [spanE, tS, go_sem, Nat.reduceEqDiff, Nat.reduceAdd, Nat.reduceLeDiff, undef]
      refine ACallL.quiet1 hK rfl rfl rfl ?_
      simp only [spanE, tS, go_sem, Nat.reduceEqDiff, Nat.reduceAdd, Int.reduceBNe, undef, beq_self_eq_true, bne_self_eq_false]
      refine alive11L ?_
      simp only [go_sem, Nat.reduceEqDiff]
      exact finL_ret [] ⟨rfl, rfl, rfl, rfl, _, rfl, ret_mk rfl⟩
    · rw [hT] at hR hA0 hK
      simp only [if_true] at hR hA0 hK
      refine ACallL.quiet1 hR rfl rfl rfl ?_
      simp only [spanE, tS, go_sem, Nat.reduceEqDiff, Nat.reduceAdd, Nat.reduceLeDiff, undef]
      refine ACallL.quiet1 hA0 rfl rfl rfl ?_
      simp only [spanE, tS, go_sem, Nat.reduceEqDiff, Nat.reduceAdd, Nat.reduceLeDiff, undef]
      refine ACallL.quiet1 hK rfl rfl rfl ?_
      simp only [spanE, tS, go_sem, Nat.reduceEqDiff, Nat.reduceAdd, undef, beq_self_eq_true, bne_self_eq_false]
      exact ⟨hour, i, hok, hT, hi, hh, rfl, rfl, rfl, rfl, rfl, rfl, rfl, rfl, rfl, rfl⟩
  rintro ⟨env, σ, df, k⟩ ⟨hour, i, hok, hT, hi, hh, q2, q4, q9, q10, q11, q13, q15, hσ, hdf, hk⟩
  simp only at q2 q4 q9 q10 q11 q13 q15 hσ hdf hk
  subst hσ hdf hk
  have hr := (r.ok_iff).1 hok
  obtain ⟨g1, g2, g3⟩ := hr.H
  have hnb := hr.tw.nb
  have hb : r.tw.bs[i]? = some r.tw.bs[i] := List.getElem?_eq_getElem hi
  generalize r.tw.bs[i] = b at *
  obtain ⟨-, -, -, kw1, kw2, kle⟩ := kept_range hr.tw hb hT
  have hwb := words_bound r.tw hr.tw (List.mem_of_getElem? hb)
  refine awpL_chop 8 (c1 := ?b1) (c2 := ?b2) (fun s => lk s.env 4 = .t (.ptr (tRa r) 0) ∧ lk s.env 17 = .t (.fn (.func 17) [] [.ptr (tRa r) 0]) ∧ s.df = [] ∧ s.k = 0) ?hc2 ?_ ?_
  case hc2 => simp only [chop]; rfl
  · have hk4 : (((keptOf r.tw i).2 - (keptOf r.tw i).1 + 1) = 0) = False := eq_false (by omega)
    obtain ⟨m, hm⟩ : ∃ m : Nat, (keptOf r.tw i).2 - (keptOf r.tw i).1 + 1 = m ∧ 1 ≤ m ∧ m ≤ 5 := ⟨((keptOf r.tw i).2 - (keptOf r.tw i).1 + 1).toNat, by omega, by omega, by omega⟩
    obtain ⟨hm, hm1, hm5⟩ := hm
    have e1 : IntKind.i64.wrap (kept : Int) = kept := wrap_id (by omega) (by omega)
    have e2 : IntKind.i64.wrap ((keptOf r.tw i).2 - (keptOf r.tw i).1) = (keptOf r.tw i).2 - (keptOf r.tw i).1 := wrap_id (by omega) (by omega)
    have e3 : IntKind.i64.wrap ((keptOf r.tw i).2 - (keptOf r.tw i).1 + 1) = (m : Int) := by rw [wrap_id (by omega) (by omega)]; omega
    have e4 : ((m : Int) = 0) = False := eq_false (by omega)
    have hmod := Nat.mod_lt kept (show 0 < m by omega)
    obtain ⟨n, hn, hn1, hn2⟩ : ∃ n : Int, (keptOf r.tw i).1 + ((kept % m : Nat) : Int) = n ∧ (keptOf r.tw i).1 ≤ n ∧ n ≤ (keptOf r.tw i).2 := ⟨_, rfl, by omega, by omega⟩
    have e5 : IntKind.i64.wrap ((keptOf r.tw i).1 + ((kept % m : Nat) : Int)) = n := by rw [hn]; exact wrap_id (by omega) (by omega)
    have hfo := found_ok' r hr i n hb
    have hxL : Lens (r.found i n) := ⟨by show (foundT r.tw i n).bs.length < _; rw [found_len]; exact hL.b, hL.l⟩
    have hR := Ready_ok (r.found i n) hour hxL
    have hA := All_ok (foundT r.tw i n)
    have hO := Owes_ok (r.found i n) i hxL
    have hxok := found_ok hok i n
    simp only [go_sem]
    refine awpL_gcpE [] [2, 4, 9, 10, 11, 13, 15] { env := [(2, .t (.lit (.int .u8 kept))), (4, .t (.ptr (tRa r) 0)), (9, .t (vi hour)), (10, .t (vi i)), (11, .t (.ptr (tS (max 0 (r.ready hour).1, max 0 (r.ready hour).2)) 0)), (13, .t (.ptr (tS r.all) 0)), (15, .t (.ptr (tS (keptOf r.tw i)) 0))], σ := [] } ?_ rfl rfl ?_
    · refine St.gc_mk ?_ rfl rfl rfl
      simp only [List.map_cons, List.map_nil, q2, q4, q9, q10, q11, q13, q15]
      rfl
    have hf0 : ACall Try.prog 17 [.t (vi i), .t (vi n), .t (.ptr (tRa r) 0)] [] (res (.ret (.tup [.t (tRa (r.found i n)), .t (vb (foundT r.tw i n).ok)]))) := hfo
    clear hfo
    unfold tS tRa tw3 ra7
    unfold tRa tw3 ra7 at hf0
    simp only [List.cons_append, List.nil_append] at hf0
    have hXtw : (r.found i n).tw = foundT r.tw i n := rfl
    have hXl : ∀ b, (r.found i n).left b hour = r.left b hour := fun _ => rfl
    have hXs : (r.found i n).stock = r.stock := rfl
    have hXH : (r.found i n).H = r.H := rfl
    have hXp : (r.found i n).price = r.price := rfl
    have hXa := fun hf => found_all (r := r) hr.tw hb (k := n) ⟨by omega, by omega⟩ (by omega) hf
    have hXT := fun hf => found_isT hr.tw hb hT (k := n) ⟨by omega, by omega⟩ hf
    have hXk := fun hf => found_kept hr.tw hb hT (k := n) ⟨by omega, by omega⟩ hf
    have hXn := found_len r.tw i n
    generalize hX : r.found i n = X at *
    cases hx : (foundT r.tw i n).ok
    · rw [hx] at hf0
      simp only [go_sem, Nat.reduceEqDiff, Nat.reduceAdd, e1, e2, e3, e4, e5, mod_nat]
      refine ACallL.fresh1 hf0 rfl ?_
      simp only [go_sem, Nat.reduceEqDiff, Nat.reduceAdd, Bool.not_false, undef]
      refine alive11L ?_
      simp only [go_sem, Nat.reduceEqDiff]
      exact finL_ret [] ⟨rfl, rfl, rfl, rfl, _, rfl, ret_mk rfl⟩
    rw [hx] at hf0
    simp only [go_sem, Nat.reduceEqDiff, Nat.reduceAdd, e1, e2, e3, e4, e5, mod_nat]
    refine ACallL.fresh1 hf0 rfl ?_
    simp only [go_sem, Nat.reduceEqDiff, Nat.reduceAdd, Bool.not_true, undef]
    rw [hx] at hxok
    have hXr := (X.ok_iff).1 hxok
    rw [← hXtw] at hA hXT hXk hXn
    have hXT := hXT hXr.tw
    have hXk := hXk hXr.tw
    have hXa := hXa (hXtw ▸ hXr.tw)
    rw [specReady_at hXr hxok (by omega), hXT, if_pos rfl] at hR
    rw [specAll_at hXr, hXT, if_pos rfl] at hA
    rw [specOwes_at hxok (by omega) hXT, hXk, hXp] at hO
    have hp := hr.price
    have m0 : 0 ≤ n * r.price ∧ n * r.price ≤ 80 := ⟨Int.mul_nonneg (by omega) (by omega), by have := Int.mul_le_mul (show n ≤ 4 by omega) hp.2 hp.1 (by decide); omega⟩
    have w0 : IntKind.i64.wrap (r.price * n) = n * r.price := by rw [Int.mul_comm]; exact wrap_id (by omega) (by omega)
    have er : X.ready hour = (r.stock - (X.all.2 + r.left true hour), r.stock - (X.all.1 + r.left false hour)) := by rw [← hXs, ← hXl, ← hXl]; rfl
    have er2 : r.ready hour = (r.stock - (r.all.2 + r.left true hour), r.stock - (r.all.1 + r.left false hour)) := rfl
    have c1 : decide (X.all.1 < r.all.1) = false := decide_eq_false (by omega)
    have c2 : decide (X.all.2 > r.all.2) = false := decide_eq_false (by omega)
    have c3 : decide (max 0 (X.ready hour).1 < max 0 (r.ready hour).1) = false := decide_eq_false (by rw [er, er2]; simp only; omega)
    have c4 : decide (max 0 (X.ready hour).2 > max 0 (r.ready hour).2) = false := decide_eq_false (by rw [er, er2]; simp only; omega)
    unfold tRa at hR hO
    unfold tw3 at hR hA hO
    unfold ra7 at hR hO
    simp only [List.cons_append, List.nil_append, spanE, tS] at hR hA hO
    generalize X.ready hour = Y1 at *
    generalize r.ready hour = Y2 at *
    generalize X.all = Y3 at *
    generalize r.all = Y4 at *
    clear er er2
    refine ACallL.quiet1 hR rfl rfl rfl ?_
    simp only [go_sem, Nat.reduceEqDiff, Nat.reduceAdd, Nat.reduceLeDiff, undef]
    refine ACallL.quiet1 hA rfl rfl rfl ?_
    simp only [go_sem, Nat.reduceEqDiff, Nat.reduceAdd, undef]
    refine ACallL.quiet1 hO rfl rfl rfl ?_
    have hsp := span3_ok (n * r.price) (n * r.price)
    simp only [go_sem, Nat.reduceEqDiff, Nat.reduceAdd, Nat.reduceLeDiff, undef, beq_self_eq_true, bne_self_eq_false, c1, c2, c3, c4, w0]
    refine ACallL.fresh1 hsp rfl ?_
    simp only [tS, go_sem, Nat.reduceEqDiff, Nat.reduceAdd, Nat.reduceLeDiff, Bool.not_true, undef, beq_self_eq_true, Bool.and_true, toKey, cellKeys, cellKey, kEq, cellEq, beq_self_eq_true]
  rintro ⟨env, σ, df, k⟩ ⟨q4, q17, hdf, hk⟩
  simp only at q4 q17 hdf hk
  subst hdf hk
  simp only [go_sem]
  refine awpL_gcpE [] [4, 17] { env := [(4, .t (.ptr (tRa r) 0)), (17, .t (.fn (.func 17) [] [.ptr (tRa r) 0]))], σ := [] } ?_ rfl rfl ?_
  · refine St.gc_mk ?_ rfl rfl rfl
    simp only [List.map_cons, List.map_nil, q4, q17]
    rfl
  have hi0 : 0 < r.tw.bs.length := by omega
  clear q4 q17 kw1 kw2 kle hwb hb hi b
  have hT2 : 0 < (truthsA r.tw (-1) 0 0).length := by unfold isT at hT; exact of_decide_eq_true hT
  have hmany : (truthsA r.tw (-1) 0 0).length ≤ 15625 := by rw [← docA_eq hr.tw]; exact docT_many hr.tw _ _
  have hCt : specCount r.tw = ((((truthsA r.tw (-1) 0 0).length : Nat) : Int), 0) := by unfold specCount; rw [(r.tw.ok_iff).2 hr.tw]; rfl
  have h1 := Count_ok r.tw
  have h2 := Search_ok r.tw
  rw [hCt] at h1
  unfold tw3 at h1 h2
  by_cases hone : 1 < (truthsA r.tw (-1) 0 0).length
  rotate_left
  · have hS : specSearch r.tw = (0, 0, 11) := by unfold specSearch; rw [(r.tw.ok_iff).2 hr.tw, hT, if_pos rfl, if_pos rfl, if_neg hone]
    have hL1 : (truthsA r.tw (-1) 0 0).length = 1 := by omega
    rw [hS] at h2
    rw [hL1] at h1
    unfold tRa tw3 ra7
    simp only [oneE, twoE] at h1 h2
    simp only [go_sem, Nat.reduceEqDiff, Nat.reduceAdd, Nat.reduceLeDiff]
    refine ACallL.fresh1 h1 rfl ?_
    simp only [go_sem, Nat.reduceEqDiff, Nat.reduceAdd, Nat.reduceLeDiff]
    refine ACallL.fresh1 h2 rfl ?_
    simp only [go_sem, Nat.reduceEqDiff, Bool.not_true, Int.reduceBNe, beq_self_eq_true, bne_self_eq_false]
    refine alive11L ?_
    simp only [go_sem, Nat.reduceEqDiff]
    exact finL_ret [] ⟨rfl, rfl, rfl, rfl, _, rfl, ret_mk rfl⟩
  have hbest := best_at (mostW r.tw) r.tw.bs.length
  obtain ⟨w, m, hS, hw, hm⟩ : ∃ w m, specSearch r.tw = (((w : Nat) : Int), m, 0) ∧ w < r.tw.bs.length ∧ m = mostW r.tw w := by
    unfold specSearch
    rw [(r.tw.ok_iff).2 hr.tw, hT, if_pos rfl, if_pos rfl, if_pos hone]
    cases hbl : bestL (fun i => (mostW r.tw i, true)) (List.range r.tw.bs.length) with
    | none => rw [hbl] at hbest; simp only at hbest; omega
    | some p =>
      obtain ⟨y, c⟩ := p
      rw [hbl] at hbest
      exact ⟨y, c, rfl, hbest.1, hbest.2⟩
  rw [hS] at h2
  have hb : r.tw.bs[w]? = some r.tw.bs[w] := List.getElem?_eq_getElem hw
  generalize r.tw.bs[w] = b at *
  obtain ⟨-, -, kall, kw1, kw2, kle⟩ := kept_range hr.tw hb hT
  have hwb := words_bound r.tw hr.tw (List.mem_of_getElem? hb)
  have h3 := Kept_ok r.tw w hL.b
  rw [specKept_at hr.tw hw, hT, if_pos rfl] at h3
  have h4 := fun (k : Nat) => found_ok' r hr w ((keptOf r.tw w).1 + k) hb
  unfold tw3 at h3
  have z1 : (((truthsA r.tw (-1) 0 0).length : Int) == 1) = false := beq_false_of_ne (by omega)
  have z2 : decide ((w : Int) < 0) = false := decide_eq_false (by omega)
  have z3 : decide ((w : Int) ≥ (r.tw.bs.length : Int)) = false := decide_eq_false (by omega)
  have hDA := docA_eq hr.tw
  have c0 : cntB r.tw w (keptOf r.tw w).1 = 0 := cnt_none fun l hl => (kall l hl).1
  have cN : cntB r.tw w ((keptOf r.tw w).2 + 1) = (truthsA r.tw (-1) 0 0).length := by rw [← hDA]; exact cnt_all fun l hl => by have := (kall l hl).2; omega
  have cS := fun k => cnt_step r.tw w k
  have cle := fun k => cnt_le r.tw w k
  rw [hDA] at cle
  unfold tRa at h4
  unfold tRa tw3 ra7
  unfold tw3 ra7 at h4
  simp only [List.cons_append, List.nil_append] at h4
  simp only [oneE, twoE, spanE, tS] at h1 h2 h3
  have hways := fun (k : Int) => truthsA_one hr.tw w hw k
  generalize hK : keptOf r.tw w = K at *
  simp only [go_sem, Nat.reduceEqDiff, Nat.reduceAdd, Nat.reduceLeDiff]
  refine ACallL.fresh1 h1 rfl ?_
  simp only [go_sem, Nat.reduceEqDiff, Nat.reduceAdd, Nat.reduceLeDiff, Int.reduceNeg]
  refine ACallL.fresh1 h2 rfl ?_
  simp only [go_sem, Nat.reduceEqDiff, Nat.reduceAdd, Nat.reduceLeDiff, Bool.not_true, Int.reduceBEq, Int.reduceNeg, beq_self_eq_true, bne_self_eq_false, z1, z2, z3, List.length_map]
  refine ACallL.fresh1 h3 rfl ?_
  simp only [go_sem, Nat.reduceEqDiff, Nat.reduceAdd, Nat.reduceLeDiff, Int.reduceNeg, undef]
  refine awpL_loopK (K.2 + 1 - K.1).toNat (fun j s => s = { env := [(35, .t (vi (K.1 + j))), (34, .t (vi (cntB r.tw w (K.1 + j)))), (17, .t (.fn (.func 17) [] [.ptr (tRa r) 0])), (27, .t (vi (truthsA r.tw (-1) 0 0).length)), (29, .t (vi w)), (30, .t (vi m)), (32, .t (.ptr (.agg [vi K.1, vi K.2]) 0)), (33, .t (vi 0))], σ := [] })
    ⟨_, Sub.gc [] [35, 34, 17, 27, 29, 30, 32, 33] rfl rfl, ?_⟩ ?_
  · rw [show K.1 + ((0 : Nat) : Int) = K.1 by omega, c0]
    exact St.gc_mk rfl rfl rfl rfl
  rintro j s hj rfl
  have w1 : IntKind.i64.wrap (K.1 + (j : Int) + 1) = K.1 + ((j + 1 : Nat) : Int) := by rw [wrap_id (by omega) (by omega)]; omega
  unfold tRa tw3 ra7
  cases g : decide (K.1 + (j : Int) ≤ K.2)
  · have he : K.1 + (j : Int) = K.2 + 1 := by have := of_decide_eq_false g; omega
    rw [he] at g
    rw [he, cN]
    simp only [go_sem, Nat.reduceEqDiff, Nat.reduceAdd, Int.reduceNeg, beq_self_eq_true, g, beq_self_eq_true]
    refine alive11L ?_
    simp only [go_sem, Nat.reduceEqDiff, Int.reduceNeg]
    exact finL_ret [] ⟨rfl, rfl, rfl, rfl, _, rfl, ret_mk rfl⟩
  have hjl := of_decide_eq_true g
  have hf := h4 j
  have hways := hways (K.1 + j)
  have hmost := most_ge hb (k := K.1 + j) ⟨by omega, by omega⟩
  have hcf := Count_ok (foundT r.tw w (K.1 + j))
  have hcs : (foundT r.tw w (K.1 + j)).ok = true → specCount (foundT r.tw w (K.1 + j)) = (waysN r.tw w 0 (K.1 + j), 0) := fun h => by
    unfold specCount
    rw [h, if_pos rfl, truths_found hb ⟨by omega, by omega⟩ (by omega)]
    rfl
  have hwn : waysN r.tw w 0 (K.1 + j) = (((docA r.tw).filter fun l => l.getD w 0 == K.1 + (j : Int)).length : Nat) := by unfold waysN; rw [hways]
  have hstep := cS (K.1 + j)
  rw [show K.1 + (j : Int) + 1 = K.1 + ((j + 1 : Nat) : Int) by omega] at hstep
  have hle := cle (K.1 + ((j + 1 : Nat) : Int))
  have w2 : IntKind.i64.wrap ((cntB r.tw w (K.1 + j) : Int) + waysN r.tw w 0 (K.1 + j)) = (cntB r.tw w (K.1 + ((j + 1 : Nat) : Int)) : Int) := by rw [hwn, wrap_id (by omega) (by omega)]; omega
  have z4 : decide (waysN r.tw w 0 (K.1 + j) > m) = false := decide_eq_false (by omega)
  have hXtw : (r.found w (K.1 + j)).tw = foundT r.tw w (K.1 + j) := rfl
  rw [← hXtw] at hcf
  unfold tw3 at hcf
  rw [hXtw] at hcf
  generalize hX : r.found w (K.1 + j) = X at *
  cases hx : (foundT r.tw w (K.1 + j)).ok
  · rw [hx] at hf
    simp only [go_sem, Nat.reduceEqDiff, Nat.reduceAdd, Int.reduceNeg, g]
    refine ACallL.fresh1 hf rfl ?_
    simp only [go_sem, Nat.reduceEqDiff, Nat.reduceAdd, Bool.not_false, Int.reduceNeg, undef]
    refine alive11L ?_
    simp only [go_sem, Nat.reduceEqDiff, Int.reduceNeg]
    exact finL_ret [] ⟨rfl, rfl, rfl, rfl, _, rfl, ret_mk rfl⟩
  rw [hx] at hf
  rw [hcs hx] at hcf
  rw [← hXtw] at hcf
  simp only [oneE] at hcf
  generalize waysN r.tw w 0 (K.1 + j) = V at *
  simp only [go_sem, Nat.reduceEqDiff, Nat.reduceAdd, Int.reduceNeg, g]
  refine ACallL.fresh1 hf rfl ?_
  simp only [go_sem, Nat.reduceEqDiff, Nat.reduceAdd, Nat.reduceLeDiff, Bool.not_true, Int.reduceNeg, undef]
  refine ACallL.fresh1 hcf rfl ?_
  simp only [go_sem, Nat.reduceEqDiff, Int.reduceNeg, beq_self_eq_true, bne_self_eq_false, z4, w1, w2]
  refine ⟨by omega, _, Sub.gc [] [35, 34, 17, 27, 29, 30, 32, 33] rfl rfl, St.gc_mk rfl rfl rfl rfl⟩
end Go.Proofs.Ytcpkkjbkbdmopaa
