/- Proved here: laws that the statements need (BoXK). No conditions but those that each law states. -/
import Derived.Test.YtafcdpmcmmfbhaaDoorBY

set_option linter.unusedSimpArgs false
set_option linter.unusedVariables false

/- BoatTrue. -/
namespace Go.Proofs.YtafcdpmcmmfbhaaDoor
open Go Go.Ab

def Tr1 (b x : Bo) (cl : List Nat) (v4 v5 : Nat) (st : St) : Prop := lk st.env 4 = .t (.lit (.int .u8 v4)) ∧ lk st.env 5 = .t (.lit (.int .u8 v5)) ∧ lk st.env 6 = .ptr 0 0 ∧ lk st.env 14 = .t (tN cl) ∧ lk st.env 15 = .ptr 1 0 ∧ lk st.env 16 = .t (vi b.D) ∧ (∃ l, x.seen = [l] ∧ x.wide = b.wide ∧ x.deep = b.deep ∧ x.speed = b.speed ∧ x.last = b.last ∧ st.σ = [.cells ((bo5 b).map .t), .cells [.t (vi b.wide), .t (vi b.deep), .t (vi b.speed), .t (vi b.last), .loc 2 1], .row 1 [.t (.slice 5 (l.map tSi))]]) ∧ st.df = [] ∧ st.k = 0
def Tr2 (b x : Bo) (cl : List Nat) (v4 v5 : Nat) (nr : Nat) (st : St) : Prop := lk st.env 4 = .t (.lit (.int .u8 v4)) ∧ lk st.env 5 = .t (.lit (.int .u8 v5)) ∧ lk st.env 6 = .t (.ptr (.agg (bo5 b)) 0) ∧ lk st.env 14 = .t (tN cl) ∧ lk st.env 15 = .t (.ptr (.agg (bo5 x)) 0) ∧ lk st.env 16 = .t (vi nr) ∧ st.σ = [] ∧ st.df = [] ∧ st.k = 0
set_option maxRecDepth 8000 in
set_option maxHeartbeats 8000000 in
theorem BoatTrue_ok (b : Bo) (hL : Lens b) (v1 : Nat) (hv1 : v1 < 256) (v2 : Nat) (hv2 : v2 < 256) (ws : List Nat) (hw : ∀ w ∈ ws, w < 256) (hwl : ws.length < 9223372036854775808) (v4 : Nat) (hv4 : v4 < 256) (v5 : Nat) (hv5 : v5 < 256) : ACall Tryd.prog 6 [.t (.agg (bo5 b)), .t (.lit (.int .u8 v1)), .t (.lit (.int .u8 v2)), .t (tB8 ws), .t (.lit (.int .u8 v4)), .t (.lit (.int .u8 v5))] [] (res (.ret (.t (vb true)))) := by
  refine ACall.walk k6 ?_
  have h32 := fine_ok b hL
  unfold c6
  refine awpL_chop 7 (c1 := ?a1) (c2 := ?a2) (fun st => b.OK ∧ ∃ x, TruOK b x (crs b v2 ws) ∧ Tr1 b x (crsL b v2 ws (b.L + 1)) v4 v5 st) ?hc ?_ ?_
  case hc => simp only [chop]; rfl
  · unfold bo5 at h32 ⊢
    simp only [go_sem, Nat.reduceEqDiff, Nat.reduceAdd, Nat.reduceSub, Nat.reduceMul, Nat.reduceLT, Nat.reduceLeDiff, Nat.reduceMod, Nat.reduceDiv, Int.reduceToNat, Int.reduceLT, Int.reduceLE, Bool.not_true, Bool.not_false, reduceIte, Int.reduceEq, Int.reduceBEq, Int.reduceBNe, Int.reduceGT, Int.reduceGE, Int.reduceNeg, Int.reduceAdd, Int.reduceSub, Nat.reduceBEq, decide_true, decide_false, undef, beq_self_eq_true, bne_self_eq_false, Bool.and_true, Bool.true_and, Bool.and_false, Bool.false_and, Bool.or_true, Bool.true_or, Bool.or_false, Bool.false_or]
    refine ACallL.quiet1 h32 rfl rfl rfl ?_
    cases hF : fineB b
    · simp only [go_sem, Nat.reduceEqDiff, Nat.reduceAdd, Nat.reduceSub, Nat.reduceMul, Nat.reduceLT, Nat.reduceLeDiff, Nat.reduceMod, Nat.reduceDiv, Int.reduceToNat, Int.reduceLT, Int.reduceLE, Bool.not_true, Bool.not_false, reduceIte, Int.reduceEq, Int.reduceBEq, Int.reduceBNe, Int.reduceGT, Int.reduceGE, Int.reduceNeg, Int.reduceAdd, Int.reduceSub, Nat.reduceBEq, decide_true, decide_false, undef, beq_self_eq_true, bne_self_eq_false, Bool.and_true, Bool.true_and, Bool.and_false, Bool.false_and, Bool.or_true, Bool.true_or, Bool.or_false, Bool.false_or, undef]
      refine ACallL.quiet1 awake_ok rfl rfl rfl ?_
      simp only [go_sem, Nat.reduceEqDiff, Nat.reduceAdd, Nat.reduceSub, Nat.reduceMul, Nat.reduceLT, Nat.reduceLeDiff, Nat.reduceMod, Nat.reduceDiv, Int.reduceToNat, Int.reduceLT, Int.reduceLE, Bool.not_true, Bool.not_false, reduceIte, Int.reduceEq, Int.reduceBEq, Int.reduceBNe, Int.reduceGT, Int.reduceGE, Int.reduceNeg, Int.reduceAdd, Int.reduceSub, Nat.reduceBEq, decide_true, decide_false, undef, beq_self_eq_true, bne_self_eq_false, Bool.and_true, Bool.true_and, Bool.and_false, Bool.false_and, Bool.or_true, Bool.true_or, Bool.or_false, Bool.false_or, undef]
      exact finL_ret [] ⟨rfl, rfl, rfl, rfl, _, rfl, res_mk rfl⟩
    obtain ⟨hok, hb⟩ := fine_iff hF
    have hnh := hb.num
    simp only [go_sem, Nat.reduceEqDiff, Nat.reduceAdd, Nat.reduceSub, Nat.reduceMul, Nat.reduceLT, Nat.reduceLeDiff, Nat.reduceMod, Nat.reduceDiv, Int.reduceToNat, Int.reduceLT, Int.reduceLE, Bool.not_true, Bool.not_false, reduceIte, Int.reduceEq, Int.reduceBEq, Int.reduceBNe, Int.reduceGT, Int.reduceGE, Int.reduceNeg, Int.reduceAdd, Int.reduceSub, Nat.reduceBEq, decide_true, decide_false, undef, beq_self_eq_true, bne_self_eq_false, Bool.and_true, Bool.true_and, Bool.and_false, Bool.false_and, Bool.or_true, Bool.true_or, Bool.or_false, Bool.false_or, undef, List.length_map]
    cases h0 : ((b.seen.length : Int) == 0)
    rotate_left
    · simp only [go_sem, Nat.reduceEqDiff, Nat.reduceAdd, Nat.reduceSub, Nat.reduceMul, Nat.reduceLT, Nat.reduceLeDiff, Nat.reduceMod, Nat.reduceDiv, Int.reduceToNat, Int.reduceLT, Int.reduceLE, Bool.not_true, Bool.not_false, reduceIte, Int.reduceEq, Int.reduceBEq, Int.reduceBNe, Int.reduceGT, Int.reduceGE, Int.reduceNeg, Int.reduceAdd, Int.reduceSub, Nat.reduceBEq, decide_true, decide_false, undef, beq_self_eq_true, bne_self_eq_false, Bool.and_true, Bool.true_and, Bool.and_false, Bool.false_and, Bool.or_true, Bool.true_or, Bool.or_false, Bool.false_or, undef, h0]
      refine ACallL.quiet1 awake_ok rfl rfl rfl ?_
      simp only [go_sem, Nat.reduceEqDiff, Nat.reduceAdd, Nat.reduceSub, Nat.reduceMul, Nat.reduceLT, Nat.reduceLeDiff, Nat.reduceMod, Nat.reduceDiv, Int.reduceToNat, Int.reduceLT, Int.reduceLE, Bool.not_true, Bool.not_false, reduceIte, Int.reduceEq, Int.reduceBEq, Int.reduceBNe, Int.reduceGT, Int.reduceGE, Int.reduceNeg, Int.reduceAdd, Int.reduceSub, Nat.reduceBEq, decide_true, decide_false, undef, beq_self_eq_true, bne_self_eq_false, Bool.and_true, Bool.true_and, Bool.and_false, Bool.false_and, Bool.or_true, Bool.true_or, Bool.or_false, Bool.false_or, undef]
      exact finL_ret [] ⟨rfl, rfl, rfl, rfl, _, rfl, res_mk rfl⟩
    have n0 : ¬ ((b.seen.length : Int) = 0) := by simpa using h0
    have ha : v1 % b.seen.length < b.seen.length := Nat.mod_lt _ (by omega)
    have t1 := mod_nat v1 b.seen.length
    have w0 : IntKind.i64.wrap (v1 : Int) = v1 := wrap_id (by omega) (by omega)
    have hD := hb.D
    generalize v1 % b.seen.length = n at *
    have hs := seenOf_at ha
    have hil : (n : Int) < b.seen.length := by omega
    have h33 := course_ok b hb v2 hv2 ws hw hwl
    have hT := true_spec hb ha (crs_lt hb v2 ws) (crs_near hb v2 ws)
    have h34 := right_ok b hb (seenOf b n) (fun s hs => hb.si (seenOf_mem ha) hs) (hb.lens _ (seenOf_mem ha)) (crs b v2 ws) (crs_lt hb v2 ws) (crsL b v2 ws (b.L + 1)) (crsL_len ..) (fun m hm => crsL_at b v2 ws (by omega))
    have hx : trueB b n (crs b v2 ws) = withS b [(seenOf b n).map (rightS b (crs b v2 ws))] := rfl
    have hdd := hD.2.2
    generalize crsL b v2 ws (b.L + 1) = cl at *
    generalize (seenOf b n).map (rightS b (crs b v2 ws)) = rl at *
    generalize seenOf b n = l at *
    generalize trueB b n (crs b v2 ws) = x at *
    simp only [bo5, tSis] at h33 h34
    simp only [tSis, go_sem, Nat.reduceEqDiff, Nat.reduceAdd, Nat.reduceSub, Nat.reduceMul, Nat.reduceLT, Nat.reduceLeDiff, Nat.reduceMod, Nat.reduceDiv, Int.reduceToNat, Int.reduceLT, Int.reduceLE, Bool.not_true, Bool.not_false, reduceIte, Int.reduceEq, Int.reduceBEq, Int.reduceBNe, Int.reduceGT, Int.reduceGE, Int.reduceNeg, Int.reduceAdd, Int.reduceSub, Nat.reduceBEq, decide_true, decide_false, undef, beq_self_eq_true, bne_self_eq_false, Bool.and_true, Bool.true_and, Bool.and_false, Bool.false_and, Bool.or_true, Bool.true_or, Bool.or_false, Bool.false_or, undef, List.length_map, h0, n0, w0, t1]
    refine ACallL.fresh1 h33 rfl ?_
    simp only [tSis, go_sem, Nat.reduceEqDiff, Nat.reduceAdd, Nat.reduceSub, Nat.reduceMul, Nat.reduceLT, Nat.reduceLeDiff, Nat.reduceMod, Nat.reduceDiv, Int.reduceToNat, Int.reduceLT, Int.reduceLE, Bool.not_true, Bool.not_false, reduceIte, Int.reduceEq, Int.reduceBEq, Int.reduceBNe, Int.reduceGT, Int.reduceGE, Int.reduceNeg, Int.reduceAdd, Int.reduceSub, Nat.reduceBEq, decide_true, decide_false, undef, beq_self_eq_true, bne_self_eq_false, Bool.and_true, Bool.true_and, Bool.and_false, Bool.false_and, Bool.or_true, Bool.true_or, Bool.or_false, Bool.false_or, undef, List.length_map, List.getElem?_map, hs, Option.map_some, hil, n0, w0, t1]
    repeat' (first | refine AndL.mk ?_ ?_ | simp only [tSis, go_sem, Nat.reduceEqDiff, Nat.reduceAdd, Nat.reduceSub, Nat.reduceMul, Nat.reduceLT, Nat.reduceLeDiff, Nat.reduceMod, Nat.reduceDiv, Int.reduceToNat, Int.reduceLT, Int.reduceLE, Bool.not_true, Bool.not_false, reduceIte, Int.reduceEq, Int.reduceBEq, Int.reduceBNe, Int.reduceGT, Int.reduceGE, Int.reduceNeg, Int.reduceAdd, Int.reduceSub, Nat.reduceBEq, decide_true, decide_false, undef, beq_self_eq_true, bne_self_eq_false, Bool.and_true, Bool.true_and, Bool.and_false, Bool.false_and, Bool.or_true, Bool.true_or, Bool.or_false, Bool.false_or, undef, List.length_map, List.getElem?_map, hs, Option.map_some, hil, n0, w0, t1])
    refine ACallL.fresh1 h34 rfl ?_
    simp only [tSis, go_sem, Nat.reduceEqDiff, Nat.reduceAdd, Nat.reduceSub, Nat.reduceMul, Nat.reduceLT, Nat.reduceLeDiff, Nat.reduceMod, Nat.reduceDiv, Int.reduceToNat, Int.reduceLT, Int.reduceLE, Bool.not_true, Bool.not_false, reduceIte, Int.reduceEq, Int.reduceBEq, Int.reduceBNe, Int.reduceGT, Int.reduceGE, Int.reduceNeg, Int.reduceAdd, Int.reduceSub, Nat.reduceBEq, decide_true, decide_false, undef, beq_self_eq_true, bne_self_eq_false, Bool.and_true, Bool.true_and, Bool.and_false, Bool.false_and, Bool.or_true, Bool.true_or, Bool.or_false, Bool.false_or, undef, List.length_map, List.getElem?_map, hs, Option.map_some, hil, n0, w0, t1]
    exact ⟨hb, x, hT, rfl, rfl, rfl, rfl, rfl, by rw [hdd.symm]; rfl, ⟨rl, by rw [hx], by rw [hx], by rw [hx], by rw [hx], by rw [hx], rfl⟩, rfl, rfl⟩
  clear h32
  rintro ⟨env, σ, df, k⟩ ⟨hb, x, T, q4, q5, q6, q14, q15, q16, ⟨l, e1, e2, e3, e4, e5, hσ⟩, hdf, hk⟩
  simp only at q4 q5 q6 q14 q15 q16 hσ hdf hk
  subst hσ hdf hk
  have hxb : bo5 x = [vi b.wide, vi b.deep, vi b.speed, vi b.last, .slice 1 [.slice 5 (l.map tSi)]] := by
    unfold bo5
    rw [e1, e2, e3, e4, e5]; rfl
  clear e1 e2 e3 e4 e5
  have hx := T.ok
  have hLx : Lens x := ⟨Nat.lt_of_le_of_lt hx.num (by decide), fun l hl => Nat.lt_of_le_of_lt (hx.lens l hl) (by decide)⟩
  have hLb := hb.L
  have hDb := hb.D
  have hWb := hb.W
  have hNb := hb.N
  have h1x : 0 < x.seen.length := by rw [T.len]; decide
  refine awpL_chop 1 (c1 := ?b1) (c2 := ?b2) (Tr2 b x (crsL b v2 ws (b.L + 1)) v4 v5 (nearK b (crs b v2 ws) (b.L + 1))) ?hc2 ?_ ?_
  case hc2 => simp only [chop]; rfl
  · have hcl := crsL_len b v2 ws (b.L + 1)
    have hcat := fun m (h : m < b.L + 1) => crsL_at b v2 ws h
    have hlt := crs_lt hb v2 ws
    have hk0 : nearK b (crs b v2 ws) 0 = b.D := rfl
    have hks := nearK_succ b (crs b v2 ws)
    have hTa := fun m (h : m ≤ b.L) => T.at' h
    generalize crs b v2 ws = c at *
    generalize crsL b v2 ws (b.L + 1) = cl at *
    simp only [go_sem, Nat.reduceEqDiff, Nat.reduceAdd, Nat.reduceSub, Nat.reduceMul, Nat.reduceLT, Nat.reduceLeDiff, Nat.reduceMod, Nat.reduceDiv, Int.reduceToNat, Int.reduceLT, Int.reduceLE, Bool.not_true, Bool.not_false, reduceIte, Int.reduceEq, Int.reduceBEq, Int.reduceBNe, Int.reduceGT, Int.reduceGE, Int.reduceNeg, Int.reduceAdd, Int.reduceSub, Nat.reduceBEq, decide_true, decide_false, undef, beq_self_eq_true, bne_self_eq_false, Bool.and_true, Bool.true_and, Bool.and_false, Bool.false_and, Bool.or_true, Bool.true_or, Bool.or_false, Bool.false_or, undef, q4, q5, q6, q14, q15, q16]
    refine awpL_gcpE [] [4, 5, 6, 14, 15, 16] { env := [(4, .t (.lit (.int .u8 v4))), (5, .t (.lit (.int .u8 v5))), (6, .t (.ptr (.agg (bo5 b)) 0)), (14, .t (tN cl)), (15, .t (.ptr (.agg (bo5 x)) 0)), (16, .t (vi b.D))], σ := [], df := [], k := 0 } (St.gc_mk (by simp only [List.map_cons, List.map_nil, lk, Nat.reduceEqDiff, reduceIte, q4, q5, q6, q14, q15, q16, hxb]; rfl) rfl rfl rfl) rfl rfl ?_
    simp only [go_sem, Nat.reduceEqDiff, Nat.reduceAdd, Nat.reduceSub, Nat.reduceMul, Nat.reduceLT, Nat.reduceLeDiff, Nat.reduceMod, Nat.reduceDiv, Int.reduceToNat, Int.reduceLT, Int.reduceLE, Bool.not_true, Bool.not_false, reduceIte, Int.reduceEq, Int.reduceBEq, Int.reduceBNe, Int.reduceGT, Int.reduceGE, Int.reduceNeg, Int.reduceAdd, Int.reduceSub, Nat.reduceBEq, decide_true, decide_false, undef, beq_self_eq_true, bne_self_eq_false, Bool.and_true, Bool.true_and, Bool.and_false, Bool.false_and, Bool.or_true, Bool.true_or, Bool.or_false, Bool.false_or, undef, List.length_map]
    refine awpL_for (i := 71) (L := 70) cl.length (fun j st => st = { env := [(71, .t (vi j)), (70, .t (vi cl.length)), (69, .t (tN cl)), (4, .t (.lit (.int .u8 v4))), (5, .t (.lit (.int .u8 v5))), (6, .t (.ptr (.agg (bo5 b)) 0)), (14, .t (tN cl)), (15, .t (.ptr (.agg (bo5 x)) 0)), (16, .t (vi (nearK b c j)))], σ := [] }) ?_ ⟨_, Sub.gc [] [71, 70, 69, 4, 5, 6, 14, 15, 16] rfl rfl, rfl⟩ ?_ ?_
    · rintro k st rfl; exact ⟨rfl, rfl⟩
    · rintro j st hj rfl
      have hjL : j ≤ b.L := by omega
      have hwj : IntKind.i64.wrap ((j : Int) + 1) = ((j + 1 : Nat) : Int) := by rw [wrap_id (by omega) (by omega)]; omega
      have hcj := hcat j (by omega)
      have h16 := Can_ok x hLx (0 : Nat) j
      rw [specCan_ok ((x.ok_iff).2 hx) h1x (by rw [T.L]; exact hjL) hx] at h16
      have h18 := Rows_ok x hLx (0 : Nat) j
      rw [specRows_ok hx h1x (by rw [T.L]; exact hjL)] at h18
      unfold canN at h16
      rw [T.told] at h16 h18
      obtain ⟨a1, a2, a3, a4⟩ := hTa j hjL
      have hc48 : canM x 0 j < 9223372036854775808 := Nat.lt_of_lt_of_le (canM_lt hx 0 j) (by decide)
      have h35 := places_ok b
      rw [hNb.2.2, wrap_id (n := (b.N : Int)) (by omega) (by omega)] at h35
      have ks := hks j
      have hcl2 := hlt j
      have d1 : ((c j : Nat) : Int).tdiv b.wide = ((c j / b.W : Nat) : Int) := by rw [hWb.2.2]; exact tdivN _ _
      have hdl : c j / b.W < 64 := Nat.lt_of_le_of_lt (Nat.div_le_self _ _) (by omega)
      have wq : IntKind.i64.wrap ((c j / b.W : Nat) : Int) = ((c j / b.W : Nat) : Int) := i64_nat (by omega)
      have hb0 := bit_eq0 (a := canM x 0 j) (i := c j) hc48
      rw [a1] at hb0
      have hcn : ((c j : Int) < 0) = False := by simp
      have hNn : ((b.N : Int) < 0) = False := by simp
      have hsh : ((canM x 0 j : Nat) : Int).fdiv (2 ^ (min b.N 64)) = 0 := by
        rw [Nat.min_eq_left (by omega), show ((2 : Int) ^ b.N) = ((2 ^ b.N : Nat) : Int) by push_cast; rfl, Int.fdiv_eq_ediv_of_nonneg _ (by omega), ← Int.natCast_ediv, Nat.div_eq_of_lt a2]
        rfl
      have n0 : ¬ (b.wide = 0) := by omega
      generalize nearK b c (j + 1) = K1 at *
      generalize nearK b c j = K0 at *
      generalize c j / b.W = R at *
      generalize c j = p at *
      generalize loR x (canM x 0 j) = lo at *
      generalize hiR x (canM x 0 j) = hi at *
      generalize canM x 0 j = C at *
      have g1 : decide ((R : Int) < (lo : Int)) = false := decide_eq_false (by omega)
      have g2 : decide ((R : Int) > (hi : Int)) = false := decide_eq_false (by omega)
      have g3 : min (K0 : Int) (R : Int) = (K1 : Int) := by omega
      simp only [oneE, spanE, tSp, if_true, hxb, bo5] at h16 h18 h35
      simp only [hxb, bo5, go_sem, Nat.reduceEqDiff, Nat.reduceAdd, Nat.reduceSub, Nat.reduceMul, Nat.reduceLT, Nat.reduceLeDiff, Nat.reduceMod, Nat.reduceDiv, Int.reduceToNat, Int.reduceLT, Int.reduceLE, Bool.not_true, Bool.not_false, reduceIte, Int.reduceEq, Int.reduceBEq, Int.reduceBNe, Int.reduceGT, Int.reduceGE, Int.reduceNeg, Int.reduceAdd, Int.reduceSub, Nat.reduceBEq, decide_true, decide_false, undef, beq_self_eq_true, bne_self_eq_false, Bool.and_true, Bool.true_and, Bool.and_false, Bool.false_and, Bool.or_true, Bool.true_or, Bool.or_false, Bool.false_or, undef, List.length_map, List.getElem?_map, hcj, Option.map_some, hwj, hj]
      refine ACallL.quiet1 h16 rfl rfl rfl ?_
      simp only [hxb, bo5, go_sem, Nat.reduceEqDiff, Nat.reduceAdd, Nat.reduceSub, Nat.reduceMul, Nat.reduceLT, Nat.reduceLeDiff, Nat.reduceMod, Nat.reduceDiv, Int.reduceToNat, Int.reduceLT, Int.reduceLE, Bool.not_true, Bool.not_false, reduceIte, Int.reduceEq, Int.reduceBEq, Int.reduceBNe, Int.reduceGT, Int.reduceGE, Int.reduceNeg, Int.reduceAdd, Int.reduceSub, Nat.reduceBEq, decide_true, decide_false, undef, beq_self_eq_true, bne_self_eq_false, Bool.and_true, Bool.true_and, Bool.and_false, Bool.false_and, Bool.or_true, Bool.true_or, Bool.or_false, Bool.false_or, undef, List.length_map, List.getElem?_map, hcj, Option.map_some, hwj, hj]
      refine ACallL.quiet1 h18 rfl rfl rfl ?_
      repeat' (first | refine AndL.mk ?_ ?_ | refine ACallL.quiet1 h35 rfl rfl rfl ?_ | simp only [hxb, bo5, go_sem, Nat.reduceEqDiff, Nat.reduceAdd, Nat.reduceSub, Nat.reduceMul, Nat.reduceLT, Nat.reduceLeDiff, Nat.reduceMod, Nat.reduceDiv, Int.reduceToNat, Int.reduceLT, Int.reduceLE, Bool.not_true, Bool.not_false, reduceIte, Int.reduceEq, Int.reduceBEq, Int.reduceBNe, Int.reduceGT, Int.reduceGE, Int.reduceNeg, Int.reduceAdd, Int.reduceSub, Nat.reduceBEq, decide_true, decide_false, undef, beq_self_eq_true, bne_self_eq_false, Bool.and_true, Bool.true_and, Bool.and_false, Bool.false_and, Bool.or_true, Bool.true_or, Bool.or_false, Bool.false_or, undef, List.length_map, List.getElem?_map, hcj, Option.map_some, hwj, hj, hb0, hcn, hNn, hsh, d1, wq, n0, g1, g2, g3])
      exact ⟨_, Sub.gc [] [71, 70, 69, 4, 5, 6, 14, 15, 16] rfl rfl, by first | rfl | (rw [hxb]; rfl)⟩
    · rintro st rfl
      rw [hcl]
      simp only [go_sem, Nat.reduceEqDiff, Nat.reduceAdd, Nat.reduceSub, Nat.reduceMul, Nat.reduceLT, Nat.reduceLeDiff, Nat.reduceMod, Nat.reduceDiv, Int.reduceToNat, Int.reduceLT, Int.reduceLE, Bool.not_true, Bool.not_false, reduceIte, Int.reduceEq, Int.reduceBEq, Int.reduceBNe, Int.reduceGT, Int.reduceGE, Int.reduceNeg, Int.reduceAdd, Int.reduceSub, Nat.reduceBEq, decide_true, decide_false, undef, beq_self_eq_true, bne_self_eq_false, Bool.and_true, Bool.true_and, Bool.and_false, Bool.false_and, Bool.or_true, Bool.true_or, Bool.or_false, Bool.false_or, undef]
      exact ⟨rfl, rfl, rfl, rfl, rfl, rfl, rfl, rfl, rfl⟩
  clear q4 q5 q6 q14 q15 q16
  rintro ⟨env, σ, df, k⟩ ⟨q4, q5, q6, q14, q15, q16, hσ, hdf, hk⟩
  simp only at q4 q5 q6 q14 q15 q16 hσ hdf hk
  subst hσ hdf hk
  have hr : v5 % (b.D + 1) ≤ b.D := by have := Nat.mod_lt v5 (show 0 < b.D + 1 by omega); omega
  have hm : v4 % (b.L + 1) ≤ b.L := by have := Nat.mod_lt v4 (show 0 < b.L + 1 by omega); omega
  have w0 : IntKind.i64.wrap (v5 : Int) = v5 := wrap_id (by omega) (by omega)
  have w1 : IntKind.i64.wrap (v4 : Int) = v4 := wrap_id (by omega) (by omega)
  have w2 : IntKind.i64.wrap (b.deep + 1) = ((b.D + 1 : Nat) : Int) := by rw [wrap_id (by omega) (by omega)]; omega
  have t1 := mod_nat v5 (b.D + 1)
  have t2 := mod_nat v4 (b.L + 1)
  have n0 : ¬ (((b.D + 1 : Nat) : Int) = 0) := by omega
  have n1 : ¬ (((b.L + 1 : Nat) : Int) = 0) := by omega
  have hcl := crsL_len b v2 ws (b.L + 1)
  have hat := crsL_at b v2 ws (show v4 % (b.L + 1) < b.L + 1 by omega)
  have hil : ((v4 % (b.L + 1) : Nat) : Int) < ((b.L + 1 : Nat) : Int) := by omega
  have h20 := Nearest_ok x hLx (0 : Nat)
  rw [specNearest_ok hx h1x, T.told] at h20
  have h22 := Broke_ok x hLx (0 : Nat) (v5 % (b.D + 1) : Nat)
  rw [specBroke_ok hx h1x (by rw [T.D]; exact hr), T.told] at h22
  have h30 := Wrong_ok x hLx (0 : Nat)
  rw [T.wrong] at h30
  obtain ⟨ks, hks1, hks2⟩ := T.speed
  have h28 := Speed_ok x hLx (0 : Nat)
  rw [hks1] at h28
  obtain ⟨su, hsu1, hsu2⟩ := T.who hm (crs_lt hb v2 ws _)
  have h26 := Who_ok x hLx (v4 % (b.L + 1) : Nat) (crs b v2 ws (v4 % (b.L + 1)) : Nat)
  rw [hsu2] at h26
  obtain ⟨c1, c2⟩ := T.near (row_lt hb (crs_lt hb v2 ws 0)).2
  have hbro : brokeN (nearS x 0) (v5 % (b.D + 1) : Nat) = if (nearHi x 0 : Int) < (v5 % (b.D + 1) : Nat) then 2 else if (loR x (nearAll x 0) : Int) ≥ (v5 % (b.D + 1) : Nat) then 0 else 1 := rfl
  unfold nearS at h20
  generalize brokeN (nearS x 0) (v5 % (b.D + 1) : Nat) = bro at *
  generalize crs b v2 ws (v4 % (b.L + 1)) = pl at *
  generalize crsL b v2 ws (b.L + 1) = cl at *
  generalize nearK b (crs b v2 ws) (b.L + 1) = K at *
  generalize v5 % (b.D + 1) = r at *
  generalize v4 % (b.L + 1) = m at *
  generalize loR x (nearAll x 0) = lo at *
  generalize nearHi x 0 = hi at *
  have g1 : decide ((lo : Int) ≤ (K : Int)) = true := decide_eq_true (by omega)
  have g2 : decide ((K : Int) ≤ (hi : Int)) = true := decide_eq_true (by omega)
  have g3 : ((bro != 2) || decide ((K : Int) < (r : Int))) = true := by
    by_cases h : (hi : Int) < (r : Int)
    · rw [decide_eq_true (show (K : Int) < (r : Int) by omega), Bool.or_true]
    · rw [if_neg h] at hbro
      rw [hbro]
      split <;> rfl
  have g4 : ((bro != 0) || decide ((K : Int) ≥ (r : Int))) = true := by
    by_cases h : (hi : Int) < (r : Int)
    · rw [if_pos h] at hbro
      rw [hbro]; rfl
    · rw [if_neg h] at hbro
      by_cases h2 : (lo : Int) ≥ (r : Int)
      · rw [decide_eq_true (show (K : Int) ≥ (r : Int) by omega), Bool.or_true]
      · rw [if_neg h2] at hbro
        rw [hbro]; rfl
  have g5 : decide ((ks : Int) ≤ b.speed) = true := decide_eq_true hks2
  have g6 : (bits .andNot .i64 (su : Int) 1 == 0) = true := by
    have : su = 0 ∨ su = 1 := by omega
    rcases this with rfl | rfl <;> decide
  simp only [oneE, twoE, spanE, tSp, if_true, hxb, bo5] at h20 h22 h30 h28 h26
  simp only [hxb, bo5, go_sem, Nat.reduceEqDiff, Nat.reduceAdd, Nat.reduceSub, Nat.reduceMul, Nat.reduceLT, Nat.reduceLeDiff, Nat.reduceMod, Nat.reduceDiv, Int.reduceToNat, Int.reduceLT, Int.reduceLE, Bool.not_true, Bool.not_false, reduceIte, Int.reduceEq, Int.reduceBEq, Int.reduceBNe, Int.reduceGT, Int.reduceGE, Int.reduceNeg, Int.reduceAdd, Int.reduceSub, Nat.reduceBEq, decide_true, decide_false, undef, beq_self_eq_true, bne_self_eq_false, Bool.and_true, Bool.true_and, Bool.and_false, Bool.false_and, Bool.or_true, Bool.true_or, Bool.or_false, Bool.false_or, undef, List.length_map, List.getElem?_map, Option.map_some, q4, q5, q6, q14, q15, q16, w0, w1, n0, n1, t1, t2, hat, hil, w2]
  refine ACallL.quiet1 h20 rfl rfl rfl ?_
  simp only [hxb, bo5, go_sem, Nat.reduceEqDiff, Nat.reduceAdd, Nat.reduceSub, Nat.reduceMul, Nat.reduceLT, Nat.reduceLeDiff, Nat.reduceMod, Nat.reduceDiv, Int.reduceToNat, Int.reduceLT, Int.reduceLE, Bool.not_true, Bool.not_false, reduceIte, Int.reduceEq, Int.reduceBEq, Int.reduceBNe, Int.reduceGT, Int.reduceGE, Int.reduceNeg, Int.reduceAdd, Int.reduceSub, Nat.reduceBEq, decide_true, decide_false, undef, beq_self_eq_true, bne_self_eq_false, Bool.and_true, Bool.true_and, Bool.and_false, Bool.false_and, Bool.or_true, Bool.true_or, Bool.or_false, Bool.false_or, undef, List.length_map, List.getElem?_map, Option.map_some, q4, q5, q6, q14, q15, q16, w0, w1, n0, n1, t1, t2, hat, hil, w2]
  refine ACallL.quiet1 h22 rfl rfl rfl ?_
  simp only [hxb, bo5, go_sem, Nat.reduceEqDiff, Nat.reduceAdd, Nat.reduceSub, Nat.reduceMul, Nat.reduceLT, Nat.reduceLeDiff, Nat.reduceMod, Nat.reduceDiv, Int.reduceToNat, Int.reduceLT, Int.reduceLE, Bool.not_true, Bool.not_false, reduceIte, Int.reduceEq, Int.reduceBEq, Int.reduceBNe, Int.reduceGT, Int.reduceGE, Int.reduceNeg, Int.reduceAdd, Int.reduceSub, Nat.reduceBEq, decide_true, decide_false, undef, beq_self_eq_true, bne_self_eq_false, Bool.and_true, Bool.true_and, Bool.and_false, Bool.false_and, Bool.or_true, Bool.true_or, Bool.or_false, Bool.false_or, undef, List.length_map, List.getElem?_map, Option.map_some, q4, q5, q6, q14, q15, q16, w0, w1, n0, n1, t1, t2, hat, hil, w2]
  refine ACallL.quiet1 h30 rfl rfl rfl ?_
  simp only [hxb, bo5, go_sem, Nat.reduceEqDiff, Nat.reduceAdd, Nat.reduceSub, Nat.reduceMul, Nat.reduceLT, Nat.reduceLeDiff, Nat.reduceMod, Nat.reduceDiv, Int.reduceToNat, Int.reduceLT, Int.reduceLE, Bool.not_true, Bool.not_false, reduceIte, Int.reduceEq, Int.reduceBEq, Int.reduceBNe, Int.reduceGT, Int.reduceGE, Int.reduceNeg, Int.reduceAdd, Int.reduceSub, Nat.reduceBEq, decide_true, decide_false, undef, beq_self_eq_true, bne_self_eq_false, Bool.and_true, Bool.true_and, Bool.and_false, Bool.false_and, Bool.or_true, Bool.true_or, Bool.or_false, Bool.false_or, undef, List.length_map, List.getElem?_map, Option.map_some, q4, q5, q6, q14, q15, q16, w0, w1, n0, n1, t1, t2, hat, hil, w2]
  refine ACallL.quiet1 h28 rfl rfl rfl ?_
  simp only [hxb, bo5, go_sem, Nat.reduceEqDiff, Nat.reduceAdd, Nat.reduceSub, Nat.reduceMul, Nat.reduceLT, Nat.reduceLeDiff, Nat.reduceMod, Nat.reduceDiv, Int.reduceToNat, Int.reduceLT, Int.reduceLE, Bool.not_true, Bool.not_false, reduceIte, Int.reduceEq, Int.reduceBEq, Int.reduceBNe, Int.reduceGT, Int.reduceGE, Int.reduceNeg, Int.reduceAdd, Int.reduceSub, Nat.reduceBEq, decide_true, decide_false, undef, beq_self_eq_true, bne_self_eq_false, Bool.and_true, Bool.true_and, Bool.and_false, Bool.false_and, Bool.or_true, Bool.true_or, Bool.or_false, Bool.false_or, undef, List.length_map, List.getElem?_map, Option.map_some, q4, q5, q6, q14, q15, q16, w0, w1, n0, n1, t1, t2, hat, hil, w2, hcl]
  repeat' (first | refine AndL.mk ?_ ?_ | simp only [hxb, bo5, go_sem, Nat.reduceEqDiff, Nat.reduceAdd, Nat.reduceSub, Nat.reduceMul, Nat.reduceLT, Nat.reduceLeDiff, Nat.reduceMod, Nat.reduceDiv, Int.reduceToNat, Int.reduceLT, Int.reduceLE, Bool.not_true, Bool.not_false, reduceIte, Int.reduceEq, Int.reduceBEq, Int.reduceBNe, Int.reduceGT, Int.reduceGE, Int.reduceNeg, Int.reduceAdd, Int.reduceSub, Nat.reduceBEq, decide_true, decide_false, undef, beq_self_eq_true, bne_self_eq_false, Bool.and_true, Bool.true_and, Bool.and_false, Bool.false_and, Bool.or_true, Bool.true_or, Bool.or_false, Bool.false_or, undef, List.length_map, List.getElem?_map, Option.map_some, q4, q5, q6, q14, q15, q16, w0, w1, n0, n1, t1, t2, hat, hil, w2, hcl])
  refine ACallL.quiet1 h26 rfl rfl rfl ?_
  cases b1 : (bro != 2) <;> cases b2 : (bro != 0)
  all_goals
    rw [b1] at g3
    rw [b2] at g4
    try simp only [Bool.false_or] at g3
    try simp only [Bool.false_or] at g4
    simp only [hxb, bo5, go_sem, Nat.reduceEqDiff, Nat.reduceAdd, Nat.reduceSub, Nat.reduceMul, Nat.reduceLT, Nat.reduceLeDiff, Nat.reduceMod, Nat.reduceDiv, Int.reduceToNat, Int.reduceLT, Int.reduceLE, Bool.not_true, Bool.not_false, reduceIte, Int.reduceEq, Int.reduceBEq, Int.reduceBNe, Int.reduceGT, Int.reduceGE, Int.reduceNeg, Int.reduceAdd, Int.reduceSub, Nat.reduceBEq, decide_true, decide_false, undef, beq_self_eq_true, bne_self_eq_false, Bool.and_true, Bool.true_and, Bool.and_false, Bool.false_and, Bool.or_true, Bool.true_or, Bool.or_false, Bool.false_or, undef, List.length_map, List.getElem?_map, Option.map_some, q4, q5, q6, q14, q15, q16, w0, w1, n0, n1, t1, t2, hat, hil, w2, g1, g2, g3, g4, g5, g6, b1, b2]
    refine ACallL.quiet1 awake_ok rfl rfl rfl ?_
    simp only [go_sem, Nat.reduceEqDiff, Nat.reduceAdd, Nat.reduceSub, Nat.reduceMul, Nat.reduceLT, Nat.reduceLeDiff, Nat.reduceMod, Nat.reduceDiv, Int.reduceToNat, Int.reduceLT, Int.reduceLE, Bool.not_true, Bool.not_false, reduceIte, Int.reduceEq, Int.reduceBEq, Int.reduceBNe, Int.reduceGT, Int.reduceGE, Int.reduceNeg, Int.reduceAdd, Int.reduceSub, Nat.reduceBEq, decide_true, decide_false, undef, beq_self_eq_true, bne_self_eq_false, Bool.and_true, Bool.true_and, Bool.and_false, Bool.false_and, Bool.or_true, Bool.true_or, Bool.or_false, Bool.false_or, undef]
    exact finL_ret [] ⟨rfl, rfl, rfl, rfl, _, rfl, res_mk rfl⟩
end Go.Proofs.YtafcdpmcmmfbhaaDoor
