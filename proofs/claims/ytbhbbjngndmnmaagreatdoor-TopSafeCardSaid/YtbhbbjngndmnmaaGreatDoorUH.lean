/- Proved here: laws that the statements need (TpH, TpI). No conditions but those that each law states. -/
import Derived.Test.YtbhbbjngndmnmaaGreatDoorUG
import Derived.Test.YtbhbbjngndmnmaaGreatDoorFN
set_option linter.unusedSimpArgs false
set_option linter.unusedVariables false
namespace Go.Proofs.YtbhbbjngndmnmaaGreatDoor
open Go Go.Ab
theorem gcY (A : AO) (a b c d : T) (xs : List T) (n : Nat) (hn : n = xs.length) : E.gc [0] [A, .cells [.t a, .t b, .t c, .t d, .loc 2 1], .row 1 [.loc 3 n], .row 5 (xs.map .t)] 12 (.ptr 1 0) = .t (.ptr (.agg [a, b, c, d, .slice 1 [.slice 5 xs]]) 0) := by
  have h1 : E.gc [0] [A, .cells [.t a, .t b, .t c, .t d, .loc 2 1], .row 1 [.loc 3 n], .row 5 (xs.map .t)] 10 (.loc 3 n) = .t (.slice 5 xs) := gc_loc (n := 8) rfl rfl hn
  have h2 : E.gc [0] [A, .cells [.t a, .t b, .t c, .t d, .loc 2 1], .row 1 [.loc 3 n], .row 5 (xs.map .t)] 11 (.loc 2 1) = .t (.slice 1 [.slice 5 xs]) := by
    rw [E.gc]
    simp only [pos?, Nat.reduceEqDiff, reduceIte, Option.map_none, List.getElem?_cons_succ, List.getElem?_cons_zero, List.map_cons, List.map_nil, h1]
    rfl
  rw [E.gc]
  simp only [pos?, Nat.reduceEqDiff, reduceIte, Option.map_none, List.getElem?_cons_succ, List.getElem?_cons_zero, List.map_cons, List.map_nil, gc_t, h2]
  rfl
theorem tdivN (a n : Nat) : (a : Int).tdiv (n : Int) = ((a / n : Nat) : Int) := by rw [Int.tdiv_eq_ediv_of_nonneg (by omega)]; rfl
def M4 (s : S.Su) (f : F.Fl) (b : B.Bo) (r : Nat) (ws : List Nat) (st : St) : Prop := ∃ (k : Nat) (K CL : List Nat) (p : Nat) (l : List B.Si), K.length = f.hs.length ∧ k ≤ 2 * f.hs.length ∧ K ∈ F.rows f ∧ B.Crs b CL b.L p ∧ l ∈ b.seen ∧
  st = { env := [(283, .t (vb false)), (282, .t (vi l.length)), (281, .t (vi l.length)), (280, .t (B.tSis l)), (3, .t (tU r)), (7, .t (.ptr (.agg (S.su5 s)) 0)), (8, .t (.ptr (.agg (F.fl5 f)) 0)), (9, .t (.ptr (.agg (B.bo5 b)) 0)), (18, .fn (.func 26) [] [.ptr 0 0, .t (.ptr (.agg [tBy ws]) 0)]), (24, .t (.slice 1 ((F.ups f K).map vb))), (25, .t (.ptr (.agg (F.fl5 (F.trueF f K))) 0)), (29, .t (.slice 1 (CL.map fun z : Nat => vi z))), (33, .ptr 1 0)], σ := [.cells [.t (vi k)], .cells [.t (vi b.wide), .t (vi b.deep), .t (vi b.speed), .t (vi b.last), .loc 2 1], .row 1 [.loc 3 l.length], .row 5 (((B.seenC b l CL).map B.tSi).map .t)] }
def M5 (s : S.Su) (f : F.Fl) (b : B.Bo) (r : Nat) (ws : List Nat) (st : St) : Prop := ∃ (k : Nat) (K CL : List Nat) (p : Nat) (l : List B.Si) (A C : List Int), K.length = f.hs.length ∧ K ∈ F.rows f ∧ B.Crs b CL b.L p ∧ l ∈ b.seen ∧ S.Wn s.water A ∧ S.Wn s.waves C ∧ A.length = s.water.length ∧ C.length = s.water.length ∧
  st = { env := [(332, .t (vb false)), (331, .t (vi s.water.length)), (330, .t (vi s.water.length)), (3, .t (tU r)), (7, .t (.ptr (.agg (S.su5 s)) 0)), (8, .t (.ptr (.agg (F.fl5 f)) 0)), (9, .t (.ptr (.agg (B.bo5 b)) 0)), (18, .fn (.func 26) [] [.ptr 0 0, .t (.ptr (.agg [tBy ws]) 0)]), (24, .t (.slice 1 ((F.ups f K).map vb))), (25, .t (.ptr (.agg (F.fl5 (F.trueF f K))) 0)), (29, .t (.slice 1 (CL.map fun z : Nat => vi z))), (33, .t (.ptr (.agg (B.bo5 (B.trueB b l CL))) 0)), (38, .loc 1 s.water.length), (39, .loc 2 s.water.length)], σ := [.cells [.t (vi k)], .row 1 ((A.map fun z : Int => vi z).map .t), .row 1 ((C.map fun z : Int => vi z).map .t)] }
def c3e : AC := (chop 19 c3).2
set_option maxRecDepth 8000 in
set_option maxHeartbeats 8000000 in
theorem TopSafe_tail (s : S.Su) (f : F.Fl) (b : B.Bo) (hF : Fine s f b) (r : Nat) (hr : r < 256) (ws vs : List Nat) (hw : ∀ w ∈ ws, w < 65536) (hwl : ws.length < 9223372036854775808) (st : St) (hst : M3 s f b r ws vs st)
    (ht : ∀ st, M5 s f b r ws st → @awpL { P := Tryz.prog, nb := 0, pn := [] } ⟨c3e⟩ ⟨fun e s => @finL 0 0 ⟨[.tmp 14]⟩ ⟨ret (vb true)⟩ e s⟩ st) :
    @awpL { P := Tryz.prog, nb := 0, pn := [] } ⟨c3d⟩ ⟨fun e s => @finL 0 0 ⟨[.tmp 14]⟩ ⟨ret (vb true)⟩ e s⟩ st := by
  obtain ⟨hs, hf, hb, hne⟩ := hF
  have hn := hf.nh
  refine awpL_chop 3 (c1 := ?g1) (c2 := ?g2) (M4 s f b r ws) ?hg ?_ ?_
  case hg => unfold c3d c3; simp only [chop]; rfl
  · obtain ⟨k, K, CL, p, hKl, hk, hrows, hC, rfl⟩ := hst
    have hW := hb.W
    have hD := hb.D
    have hN := hb.N
    have hL := hb.L
    have hCl := hC.len
    obtain ⟨l, sr, hse⟩ : ∃ l sr, b.seen = l :: sr := by
      cases h : b.seen with
      | nil => exact absurd h hne
      | cons l sr => exact ⟨l, sr, rfl⟩
    have hl : l ∈ b.seen := by rw [hse]; simp
    have hl5 := hb.lens l hl
    have hs0 : b.seen[0]? = some l := by rw [hse]; rfl
    rw [awpL_seq, awpL_seq]
    refine awpL_gcpE [0] [3, 7, 8, 9, 18, 24, 25, 29] { env := [(3, .t (tU r)), (7, .t (.ptr (.agg (S.su5 s)) 0)), (8, .t (.ptr (.agg (F.fl5 f)) 0)), (9, .t (.ptr (.agg (B.bo5 b)) 0)), (18, .fn (.func 26) [] [.ptr 0 0, .t (.ptr (.agg [tBy ws]) 0)]), (24, .t (.slice 1 ((F.ups f K).map vb))), (25, .t (.ptr (.agg (F.fl5 (F.trueF f K))) 0)), (29, .t (.slice 1 (CL.map fun z : Nat => vi z)))], σ := [.cells [.t (vi k)]], df := [], k := 0 } (St.gc_mk (by
      simp only [List.map_cons, List.map_nil, lk, Nat.reduceEqDiff, reduceIte]
      rw [gc_loc (n := 10) (id := 1) (xs := CL.map fun z : Nat => vi z) rfl rfl (by simp [hCl])]
      rfl) rfl rfl rfl) rfl rfl ?_
    generalize hUE : F.ups f K = U at *
    generalize hXE : F.trueF f K = x at *
    simp only [B.bo5, go_sem, Nat.reduceEqDiff, Nat.reduceAdd, Nat.reduceLT, Int.reduceLE, undef, undef, List.length_map, List.getElem?_map, hs0, Option.map_some, B.tSis]
    refine awpL_for (i := 282) (L := 281) l.length (fun j st => st = { env := [(282, .t (vi j)), (281, .t (vi l.length)), (280, .t (B.tSis l)), (3, .t (tU r)), (7, .t (.ptr (.agg (S.su5 s)) 0)), (8, .t (.ptr (.agg (F.fl5 f)) 0)), (9, .t (.ptr (.agg (B.bo5 b)) 0)), (18, .fn (.func 26) [] [.ptr 0 0, .t (.ptr (.agg [tBy ws]) 0)]), (24, .t (.slice 1 (U.map vb))), (25, .t (.ptr (.agg (F.fl5 x)) 0)), (29, .t (.slice 1 (CL.map fun z : Nat => vi z))), (33, .ptr 1 0)], σ := [.cells [.t (vi k)], .cells [.t (vi b.wide), .t (vi b.deep), .t (vi b.speed), .t (vi b.last), .loc 2 1], .row 1 [.loc 3 j], .row 5 ((((B.seenC b l CL).take j).map B.tSi).map .t)] }) ?_
      ⟨_, (Sub.ghostR 2 0 5 1 (by decide) (by decide) rfl rfl).trans (Sub.gc [0, 1, 2, 3] [282, 281, 280, 3, 7, 8, 9, 18, 24, 25, 29, 33] rfl rfl), rfl⟩ ?_ ?_
    · rintro j st rfl; exact ⟨rfl, rfl⟩
    · rintro j st hj rfl
      have hwj : IntKind.i64.wrap ((j : Int) + 1) = ((j + 1 : Nat) : Int) := by rw [wrap_id (by omega) (by omega)]; omega
      have hx : l[j]? = some l[j] := List.getElem?_eq_getElem hj
      have hxo := hb.si hl (List.getElem_mem hj)
      have htk : (B.seenC b l CL).take (j + 1) = (B.seenC b l CL).take j ++ [B.obs b (CL.getD l[j].minute.toNat 0) l[j].minute] := by
        rw [List.take_add_one, List.getElem?_map, hx]; rfl
      have htl : ((B.seenC b l CL).take j).length = j := by rw [List.length_take, List.length_map]; omega
      generalize (B.seenC b l CL).take (j + 1) = O1 at *
      generalize (B.seenC b l CL).take j = O at *
      generalize l[j] = y at *
      obtain ⟨mi, c1, c2, r1, r2⟩ := y
      have hmi := hxo.min
      simp only at hmi htk
      obtain ⟨m, rfl⟩ : ∃ m : Nat, mi = m := ⟨mi.toNat, by omega⟩
      simp only [Int.toNat_natCast] at htk
      have hq : CL[m]? = some (CL.getD m 0) := by rw [List.getD_eq_getElem?_getD, List.getElem?_eq_getElem (by omega)]; rfl
      have hqN := hC.lt _ (List.mem_of_getElem? hq)
      generalize CL.getD m 0 = q at *
      have t1 : (q : Int).tmod b.wide = ((q % b.W : Nat) : Int) := by rw [hW.2.2]; exact mod_nat q b.W
      have t2 : (q : Int).tdiv b.wide = ((q / b.W : Nat) : Int) := by rw [hW.2.2]; exact tdivN q b.W
      have nW : (b.wide = 0) = False := eq_false (by omega)
      obtain ⟨h1, h2⟩ := B.row_lt' hb hqN
      have hob : B.obs b q m = ⟨m, (q % b.W : Nat), min (b.wide - 1) (((q % b.W : Nat) : Int) + 1), max 0 (((q / b.W : Nat) : Int) - 1), (q / b.W : Nat)⟩ := rfl
      rw [hob] at htk
      clear hob hxo
      generalize q % b.W = qc at *
      generalize q / b.W = qr at *
      have w0 : IntKind.i64.wrap (qr : Int) = (qr : Int) := wrap_id (by omega) (by omega)
      have w1 : IntKind.i64.wrap (b.wide - 1) = b.wide - 1 := wrap_id (by omega) (by omega)
      have w2 : IntKind.i64.wrap ((qc : Int) + 1) = (qc : Int) + 1 := wrap_id (by omega) (by omega)
      have w3 : IntKind.i64.wrap ((qr : Int) - 1) = (qr : Int) - 1 := wrap_id (by omega) (by omega)
      generalize h5 : min (b.wide - 1) ((qc : Int) + 1) = mc at *
      generalize h6 : max 0 ((qr : Int) - 1) = mr at *
      subst htl
      simp only [B.bo5, go_sem, Nat.reduceEqDiff, Nat.reduceAdd, Nat.reduceLeDiff, Int.reduceLT, Int.reduceLE, undef, undef, List.getElem?_map, hx, hq, Option.map_some, B.tSi, B.tSis, nW, t1, t2, w0, w1, w2, w3, h5, h6]
      refine ACallL.quiet1 (span4_ok _ _) rfl rfl rfl ?_
      simp only [go_sem, Nat.reduceEqDiff, Nat.reduceAdd, Nat.reduceLeDiff, Int.reduceLT, Int.reduceLE, Option.map_some]
      refine ACallL.quiet1 (span4_ok _ _) rfl rfl rfl ?_
      simp only [B.bo5, go_sem, Nat.reduceEqDiff, Nat.reduceAdd, Nat.reduceLT, Nat.reduceLeDiff, Int.reduceLT, Int.reduceLE, Bool.not_false, undef, undef, List.length_map, Option.map_some, B.tSis, hwj]
      refine ⟨⟨by unfold maxLen; omega, by omega⟩, _, Sub.gc [0, 1, 2, 3] [282, 281, 280, 3, 7, 8, 9, 18, 24, 25, 29, 33] rfl rfl, ?_⟩
      rw [htk]
      exact St.gc_mk rfl (congrArg (fun z => [AO.cells [E.t _], AO.cells [_, _, _, _, _], AO.row 1 [_], AO.row 5 z]) (row_app B.tSi O ⟨_, _, _, _, _⟩)) rfl rfl
    · rintro st rfl
      simp only [go_sem]
      subst hUE hXE
      refine ⟨k, K, CL, p, l, hKl, hk, hrows, hC, hl, ?_⟩
      rw [show (B.seenC b l CL).take l.length = B.seenC b l CL from List.take_of_length_le (by simp)]
  intro st hst
  refine awpL_chop 2 (c1 := ?h1) (c2 := ?h2) (M5 s f b r ws) ?hh ?_ ?_
  case hh => simp only [chop]; rfl
  · obtain ⟨k, K, CL, p, l, hKl, hk, hrows, hC, hl, rfl⟩ := hst
    rw [awpL_seq, awpL_seq]
    refine awpL_gcpE [0] [3, 7, 8, 9, 18, 24, 25, 29, 33] { env := [(3, .t (tU r)), (7, .t (.ptr (.agg (S.su5 s)) 0)), (8, .t (.ptr (.agg (F.fl5 f)) 0)), (9, .t (.ptr (.agg (B.bo5 b)) 0)), (18, .fn (.func 26) [] [.ptr 0 0, .t (.ptr (.agg [tBy ws]) 0)]), (24, .t (.slice 1 ((F.ups f K).map vb))), (25, .t (.ptr (.agg (F.fl5 (F.trueF f K))) 0)), (29, .t (.slice 1 (CL.map fun z : Nat => vi z))), (33, .t (.ptr (.agg (B.bo5 (B.trueB b l CL))) 0))], σ := [.cells [.t (vi k)]], df := [], k := 0 } (St.gc_mk (by
      simp only [List.map_cons, List.map_nil, lk, Nat.reduceEqDiff, reduceIte]
      rw [gcY _ _ _ _ _ ((B.seenC b l CL).map B.tSi) _ (by simp)]
      rfl) rfl rfl rfl) rfl rfl ?_
    generalize hUE : F.ups f K = U at *
    generalize hXE : F.trueF f K = x at *
    generalize hYE : B.trueB b l CL = y at *
    have hnw := hs.nw
    have hnv := hs.nv
    simp only [S.su5, go_sem, Nat.reduceEqDiff, Nat.reduceAdd, List.length_map]
    refine awpL_for (i := 331) (L := 330) s.water.length (fun j st => ∃ (k : Nat) (A C : List Int), k ≤ 18 + 2 * j ∧ A.length = j ∧ C.length = j ∧ S.Wn s.water A ∧ S.Wn s.waves C ∧ st = { env := [(331, .t (vi j)), (330, .t (vi s.water.length)), (3, .t (tU r)), (7, .t (.ptr (.agg (S.su5 s)) 0)), (8, .t (.ptr (.agg (F.fl5 f)) 0)), (9, .t (.ptr (.agg (B.bo5 b)) 0)), (18, .fn (.func 26) [] [.ptr 0 0, .t (.ptr (.agg [tBy ws]) 0)]), (24, .t (.slice 1 (U.map vb))), (25, .t (.ptr (.agg (F.fl5 x)) 0)), (29, .t (.slice 1 (CL.map fun z : Nat => vi z))), (33, .t (.ptr (.agg (B.bo5 y)) 0)), (38, .loc 1 j), (39, .loc 2 j)], σ := [.cells [.t (vi k)], .row 1 ((A.map fun z : Int => vi z).map .t), .row 1 ((C.map fun z : Int => vi z).map .t)] }) ?_
      ⟨_, (Sub.ghost 38 1 (by decide) rfl).trans ((Sub.ghost 39 1 (by decide) rfl).trans (Sub.gc [0, 1, 2] [331, 330, 3, 7, 8, 9, 18, 24, 25, 29, 33, 38, 39] rfl rfl)), k, [], [], by omega, rfl, rfl, S.Wn_nil _, S.Wn_nil _, rfl⟩ ?_ ?_
    · rintro j st ⟨_, _, _, _, _, _, _, _, rfl⟩; exact ⟨rfl, rfl⟩
    · rintro j st hj ⟨k, A, C, hk, rfl, hcl, hA, hC', rfl⟩
      have hwj : IntKind.i64.wrap ((A.length : Int) + 1) = ((A.length + 1 : Nat) : Int) := by rw [wrap_id (by omega) (by omega)]; omega
      have hx : s.water[A.length]? = some s.water[A.length] := List.getElem?_eq_getElem hj
      have hj' : A.length < s.waves.length := by omega
      have hy : s.waves[A.length]? = some s.waves[A.length] := List.getElem?_eq_getElem hj'
      have bx := hs.water _ (List.getElem_mem hj)
      have by_ := hs.waves _ (List.getElem_mem hj')
      generalize s.water[A.length] = xx at *
      generalize s.waves[A.length] = yy at *
      obtain ⟨xl, xh⟩ := xx
      obtain ⟨yl, yh⟩ := yy
      have bx' : 0 ≤ xl ∧ xl ≤ xh ∧ xh ≤ 30 ∧ xh - xl ≤ 3 := bx
      have by' : 0 ≤ yl ∧ yl ≤ yh ∧ yh ≤ 10 ∧ yh - yl ≤ 3 := by_
      have d1 := draw_ok ws hw hwl k (by omega) xl xh (by omega)
      have d2 := draw_ok ws hw hwl (k + 1) (by omega) yl yh (by omega)
      have hA1 := S.Wn_snoc hA hx (drawI_in ws (k + 1) (lo := xl) (hi := xh) (by omega))
      have hC1 := S.Wn_snoc hC' (by rw [hcl]; exact hy) (drawI_in ws (k + 1 + 1) (lo := yl) (hi := yh) (by omega))
      generalize drawI ws (k + 1) xl xh = v1 at *
      generalize drawI ws (k + 1 + 1) yl yh = v2 at *
      simp only [S.su5, go_sem, Nat.reduceEqDiff, Nat.reduceAdd, List.getElem?_map, hx, hy, Option.map_some, S.tSp]
      refine S.lend1 (m := 0) d1 rfl rfl rfl ?_
      rintro o a ⟨rfl, rfl⟩
      simp only [go_sem, Nat.reduceEqDiff, Nat.reduceAdd, Nat.reduceLT, Out.ren, E.ren, E.rens, AO.ren, List.length_map, List.getElem?_map, hx, hy, Option.map_some, S.tSp]
      refine ⟨⟨by unfold maxLen; omega, by omega⟩, ?_⟩
      refine S.lend1 (m := 0) d2 rfl rfl rfl ?_
      rintro o a ⟨rfl, rfl⟩
      simp only [S.su5, go_sem, Nat.reduceEqDiff, Nat.reduceAdd, Nat.reduceLT, Out.ren, E.ren, E.rens, AO.ren, List.length_map, List.getElem?_map, hx, hy, Option.map_some, S.tSp, hcl, hwj]
      refine ⟨⟨by unfold maxLen; omega, by omega⟩, _, Sub.gc [0, 1, 2] [331, 330, 3, 7, 8, 9, 18, 24, 25, 29, 33, 38, 39] rfl rfl, k + 1 + 1, A ++ [v1], C ++ [v2], by omega, by simp, by simp [hcl], hA1, hC1, ?_⟩
      exact St.gc_mk rfl (by
        show [AO.cells _, AO.row 1 ((List.map E.t (List.map _ A) ++ [_]).map (E.gc _ _ 12)), AO.row 1 ((List.map E.t (List.map _ C) ++ [_]).map (E.gc _ _ 12))] = _
        rw [row_app (fun z : Int => vi z) A v1, row_app (fun z : Int => vi z) C v2]
        rfl) rfl rfl
    · rintro st ⟨k, A, C, hk, hA0, hC0, hA, hC', rfl⟩
      simp only [go_sem]
      subst hUE hXE hYE
      exact ⟨k, K, CL, p, l, A, C, hKl, hrows, hC, hl, hA, hC', hA0, hC0, rfl⟩
  exact ht
open Go Go.Ab
def M6 (s : S.Su) (b : B.Bo) (U : List Bool) (CL : List Nat) (y : B.Bo) (A C : List Int) (a c lst j : Nat) (lim : Int) (st : St) : Prop := ∃ sf nv cm : Bool, (sf = true → cm = true) ∧ (nv = true → cm = false) ∧
  lk st.env 382 = .t (vi j) ∧ lk st.env 381 = .t (vi lim) ∧ lk st.env 7 = .t (.ptr (.agg (S.su5 s)) 0) ∧ lk st.env 9 = .t (.ptr (.agg (B.bo5 b)) 0) ∧ lk st.env 24 = .t (.slice 1 (U.map vb)) ∧ lk st.env 29 = .t (.slice 1 (CL.map fun z : Nat => vi z)) ∧ lk st.env 33 = .t (.ptr (.agg (B.bo5 y)) 0) ∧
  lk st.env 38 = .t (S.tI A) ∧ lk st.env 39 = .t (S.tI C) ∧ lk st.env 41 = .t (.ptr (.agg [S.tI A, S.tI C]) 0) ∧ lk st.env 42 = .t (vi a) ∧ lk st.env 43 = .t (vi c) ∧ lk st.env 45 = .t (vi lst) ∧ lk st.env 46 = .t (vi j) ∧ lk st.env 49 = .t (vb sf) ∧ lk st.env 50 = .t (vb nv) ∧ lk st.env 51 = .t (vb cm) ∧ st.df = [] ∧ st.k = 0
set_option maxRecDepth 8000 in
set_option maxHeartbeats 8000000 in
theorem TopSafe_end (s : S.Su) (f : F.Fl) (b : B.Bo) (hF : Fine s f b) (r : Nat) (hr : r < 256) (ws : List Nat) (st : St) (hst : M5 s f b r ws st) :
    @awpL { P := Tryz.prog, nb := 0, pn := [] } ⟨c3e⟩ ⟨fun e s => @finL 0 0 ⟨[.tmp 14]⟩ ⟨ret (vb true)⟩ e s⟩ st := by
  obtain ⟨hs, hf, hb, hne⟩ := hF
  obtain ⟨k, K, CL, p, l, A, C, hKl, hrows, hC, hl, hA, hC', hAl, hCl, rfl⟩ := hst
  refine (fun {cc : AC} (h : c3e = cc) (h2 : @awpL { P := Tryz.prog, nb := 0, pn := [] } ⟨cc⟩ ⟨fun e s => @finL 0 0 ⟨[.tmp 14]⟩ ⟨ret (vb true)⟩ e s⟩ _) => by subst h; exact h2) (cc := ?cc) ?hcc ?_
  case hcc => unfold c3e c3; simp only [chop]; rfl
  have hW := hb.W
  have hD := hb.D
  have hN := hb.N
  have hL := hb.L
  have hn := hf.nh
  have hnw := hs.nw
  have hcl := hC.len
  obtain ⟨a, c, hup, ha, hc, hua⟩ := F.trueF_up hf hrows
  have hxo := (F.trueF_ok hf hrows).1
  have q11 := F.Up_ok (F.trueF f K) ⟨by have := hxo.nh; omega, by have := hxo.ns; omega⟩
  rw [hup] at q11
  obtain ⟨hyo, hyr⟩ := B.trueB_rows hb hl hcl hC.lt hC.near
  have hyl : B.Lens (B.trueB b l CL) := ⟨by simp, fun l' hl' => by have := hyo.lens l' hl'; omega⟩
  have q12 := fun m : Nat => B.Rows_ok (B.trueB b l CL) hyl 0 m
  have hul : (F.ups f K).length = f.hs.length := by rw [F.upsP_len, hKl]
  have hUa : ∀ m, F.upAt f K m = (F.ups f K).getD m false := fun m => rfl
  simp only [hUa] at hua
  generalize F.ups f K = U at *
  generalize F.trueF f K = x at *
  generalize B.trueB b l CL = y at *
  rw [awpL_seq, awpL_seq]
  refine awpL_gcpE [] [3, 7, 8, 9, 24, 25, 29, 33, 38, 39] { env := [(3, .t (tU r)), (7, .t (.ptr (.agg (S.su5 s)) 0)), (8, .t (.ptr (.agg (F.fl5 f)) 0)), (9, .t (.ptr (.agg (B.bo5 b)) 0)), (24, .t (.slice 1 (U.map vb))), (25, .t (.ptr (.agg (F.fl5 x)) 0)), (29, .t (.slice 1 (CL.map fun z : Nat => vi z))), (33, .t (.ptr (.agg (B.bo5 y)) 0)), (38, .t (S.tI A)), (39, .t (S.tI C))], σ := [], df := [], k := 0 } (St.gc_mk (by
    simp only [List.map_cons, List.map_nil, lk, Nat.reduceEqDiff, reduceIte]
    rw [gc_loc (n := 10) (id := 1) (xs := A.map fun z : Int => vi z) rfl rfl (by simp [hAl]), gc_loc (n := 10) (id := 2) (xs := C.map fun z : Int => vi z) rfl rfl (by simp [hCl])]
    rfl) rfl rfl rfl) rfl rfl ?_
  simp only [F.twoE, F.fl5] at q11
  simp only [F.fl5, go_sem, Nat.reduceEqDiff, Nat.reduceAdd, Nat.reduceLeDiff, undef, undef]
  refine ACallL.quiet1 q11 rfl rfl rfl ?_
  simp only [go_sem, Nat.reduceEqDiff, bne_self_eq_false]
  refine awpL_gcpE [] [3, 7, 8, 9, 24, 29, 33, 38, 39, 41, 42, 43] { env := [(3, .t (tU r)), (7, .t (.ptr (.agg (S.su5 s)) 0)), (8, .t (.ptr (.agg (F.fl5 f)) 0)), (9, .t (.ptr (.agg (B.bo5 b)) 0)), (24, .t (.slice 1 (U.map vb))), (29, .t (.slice 1 (CL.map fun z : Nat => vi z))), (33, .t (.ptr (.agg (B.bo5 y)) 0)), (38, .t (S.tI A)), (39, .t (S.tI C)), (41, .t (.ptr (.agg [S.tI A, S.tI C]) 0)), (42, .t (vi a)), (43, .t (vi c))], σ := [], df := [], k := 0 } rfl rfl rfl ?_
  have cr : IntKind.i64.wrap (r : Int) = r := wrap_id (by omega) (by omega)
  have wd : IntKind.i64.wrap (b.deep + 1) = ((b.D + 1 : Nat) : Int) := by rw [wrap_id (by omega) (by omega)]; omega
  have nD : (((b.D + 1 : Nat) : Int) = 0) = False := eq_false (by omega)
  have md := mod_nat r (b.D + 1)
  have hlst : r % (b.D + 1) < b.D + 1 := Nat.mod_lt _ (by omega)
  generalize r % (b.D + 1) = lst at *
  have wl : IntKind.i64.wrap (b.last + 1) = ((b.L + 1 : Nat) : Int) := by rw [wrap_id (by omega) (by omega)]; omega
  obtain ⟨lim, hlim, hl1, hl2, hl3⟩ : ∃ lim : Nat, min (min ((f.hs.length : Nat) : Int) ((s.water.length : Nat) : Int)) ((b.L + 1 : Nat) : Int) = lim ∧ lim ≤ f.hs.length ∧ lim ≤ s.water.length ∧ lim ≤ b.L + 1 :=
    ⟨min (min f.hs.length s.water.length) (b.L + 1), by omega, by omega, by omega, by omega⟩
  simp only [S.su5, F.fl5, B.bo5, go_sem, Nat.reduceEqDiff, Nat.reduceAdd, cr, wd, nD, md, wl, hlim, List.length_map]
  refine awpL_for (i := 382) (L := 381) lim (fun j st => st = { env := [(382, .t (vi j)), (381, .t (vi lim)), (7, .t (.ptr (.agg (S.su5 s)) 0)), (9, .t (.ptr (.agg (B.bo5 b)) 0)), (24, .t (.slice 1 (U.map vb))), (29, .t (.slice 1 (CL.map fun z : Nat => vi z))), (33, .t (.ptr (.agg (B.bo5 y)) 0)), (38, .t (S.tI A)), (39, .t (S.tI C)), (41, .t (.ptr (.agg [S.tI A, S.tI C]) 0)), (42, .t (vi a)), (43, .t (vi c)), (45, .t (vi lst))], σ := [] }) ?_
    ⟨_, Sub.gc [] [382, 381, 7, 9, 24, 29, 33, 38, 39, 41, 42, 43, 45] rfl rfl, rfl⟩ ?_ ?_
  · rintro j st rfl; exact ⟨rfl, rfl⟩
  · rintro j st hj rfl
    have hwj : IntKind.i64.wrap ((j : Int) + 1) = ((j + 1 : Nat) : Int) := by rw [wrap_id (by omega) (by omega)]; omega
    obtain ⟨lo, hi, hrw, hlo, hhi, hhi6⟩ := hyr j (by omega)
    have q := q12 j
    rw [hrw] at q
    have hUj : U[j]? = some (U.getD j false) := by rw [List.getD_eq_getElem?_getD, List.getElem?_eq_getElem (by omega)]; rfl
    have hCj : CL[j]? = some (CL.getD j 0) := by rw [List.getD_eq_getElem?_getD, List.getElem?_eq_getElem (by omega)]; rfl
    obtain ⟨u1, u2⟩ := hua j (by omega)
    have b1 := bit_eq (a := a) (i := j) (by omega)
    have b0 := bit_eq0 (a := c) (i := j) (by omega)
    have hqN := hC.lt _ (List.mem_of_getElem? hCj)
    have hqD := (B.row_lt' hb hqN).2
    have t2 : ((CL.getD j 0 : Nat) : Int).tdiv b.wide = ((CL.getD j 0 / b.W : Nat) : Int) := by rw [hW.2.2]; exact tdivN _ b.W
    have nW : (b.wide = 0) = False := eq_false (by omega)
    generalize U.getD j false = uj at *
    generalize CL.getD j 0 = q0 at *
    generalize q0 / b.W = qr at *
    have w0 : IntKind.i64.wrap (qr : Int) = (qr : Int) := wrap_id (by omega) (by omega)
    have hfl := fun h hh => S.flo_law hs (h := h) hh hA hC' hAl hCl (i := j) (by omega)
    rw [awpL_seq, awpL_block]
    refine awpL_chop 5 (c1 := ?h1) (c2 := ?h2) (M6 s b U CL y A C a c lst j lim) ?hh ?_ ?_
    case hh => simp only [chop]; rfl
    · simp only [B.spanE, B.tSp, B.bo5] at q
      simp only [B.bo5, go_sem, Nat.reduceEqDiff, Nat.reduceAdd]
      refine ACallL.quiet1 q rfl rfl rfl ?_
      generalize c.testBit j = cb at *
      generalize a.testBit j = ab at *
      cases uj
      · cases ab
        rotate_left
        · cases u1 rfl
        cases cb
        · simp only [go_sem, Nat.reduceEqDiff, Nat.reduceAdd, Nat.reduceLeDiff, Bool.not_false, undef, beq_self_eq_true, bne_self_eq_false, undef, nat_neg, List.getElem?_map, hUj, hCj, Option.map_some, b1, b0, t2, nW, w0]
          exact ⟨decide ((lo : Int) ≥ (lst : Int)), decide ((hi : Int) < (lst : Int)), decide ((qr : Int) ≥ (lst : Int)), fun h => by have := of_decide_eq_true h; exact decide_eq_true (by omega), fun h => by have := of_decide_eq_true h; exact decide_eq_false (by omega), rfl, rfl, rfl, rfl, rfl, rfl, rfl, rfl, rfl, rfl, rfl, rfl, rfl, rfl, rfl, rfl, rfl, rfl, rfl⟩
        · simp only [go_sem, Nat.reduceEqDiff, Nat.reduceAdd, Bool.not_true, Bool.not_false, undef, beq_self_eq_true, bne_self_eq_false, undef, nat_neg, List.getElem?_map, hUj, hCj, Option.map_some, b1, b0, t2, nW, w0]
          exact ⟨false, decide ((hi : Int) < (lst : Int)), decide ((qr : Int) ≥ (lst : Int)), fun h => (by cases h), fun h => by have := of_decide_eq_true h; exact decide_eq_false (by omega), rfl, rfl, rfl, rfl, rfl, rfl, rfl, rfl, rfl, rfl, rfl, rfl, rfl, rfl, rfl, rfl, rfl, rfl, rfl⟩
      · cases cb
        · cases u2 rfl
        cases ab
        · simp only [go_sem, Nat.reduceEqDiff, Nat.reduceAdd, Bool.not_true, undef, beq_self_eq_true, bne_self_eq_false, undef, nat_neg, List.getElem?_map, hUj, Option.map_some, b1, b0]
          exact ⟨false, decide ((hi : Int) < (lst : Int)), false, fun h => (by cases h), fun h => rfl, rfl, rfl, rfl, rfl, rfl, rfl, rfl, rfl, rfl, rfl, rfl, rfl, rfl, rfl, rfl, rfl, rfl, rfl, rfl⟩
        · simp only [go_sem, Nat.reduceEqDiff, Nat.reduceAdd, Bool.not_true, undef, bne_self_eq_false, undef, nat_neg, List.getElem?_map, hUj, Option.map_some, b1, b0]
          exact ⟨false, true, false, fun h => (by cases h), fun h => rfl, rfl, rfl, rfl, rfl, rfl, rfl, rfl, rfl, rfl, rfl, rfl, rfl, rfl, rfl, rfl, rfl, rfl, rfl, rfl⟩
    clear q12 hyr hua
    rintro ⟨env, σ, df, k⟩ ⟨sf, nv, cm, h1, h2, e382, e381, e7, e9, e24, e29, e33, e38, e39, e41, e42, e43, e45, e46, e49, e50, e51, hdf, hk⟩
    simp only at e382 e381 e7 e9 e24 e29 e33 e38 e39 e41 e42 e43 e45 e46 e49 e50 e51 hdf hk
    subst hdf hk
    have hnh := hs.nh
    have hgA : A[j]? = some (A.getD j 0) := by rw [List.getD_eq_getElem?_getD, List.getElem?_eq_getElem (by omega)]; rfl
    have hgC : C[j]? = some (C.getD j 0) := by rw [List.getD_eq_getElem?_getD, List.getElem?_eq_getElem (by omega)]; rfl
    have hba := S.Wn_bnd hA hs.water j _ hgA
    have hbc := S.Wn_bnd hC' hs.waves j _ hgC
    simp only [S.su5, go_sem, Nat.reduceEqDiff, Nat.reduceAdd, e7, List.length_map]
    refine awpL_for (i := 434) (L := 433) s.huts.length (fun n st => ∃ sf nv cm : Bool, (sf = true → cm = true) ∧ (nv = true → cm = false) ∧ st = { env := [(434, .t (vi n)), (433, .t (vi s.huts.length)), (382, .t (vi j)), (381, .t (vi lim)), (7, .t (.ptr (.agg (S.su5 s)) 0)), (9, .t (.ptr (.agg (B.bo5 b)) 0)), (24, .t (.slice 1 (U.map vb))), (29, .t (.slice 1 (CL.map fun z : Nat => vi z))), (33, .t (.ptr (.agg (B.bo5 y)) 0)), (38, .t (S.tI A)), (39, .t (S.tI C)), (41, .t (.ptr (.agg [S.tI A, S.tI C]) 0)), (42, .t (vi a)), (43, .t (vi c)), (45, .t (vi lst)), (46, .t (vi j)), (49, .t (vb sf)), (50, .t (vb nv)), (51, .t (vb cm))], σ := [] }) ?_
      ⟨_, Sub.gc [] [434, 433, 382, 381, 7, 9, 24, 29, 33, 38, 39, 41, 42, 43, 45, 46, 49, 50, 51] rfl rfl, sf, nv, cm, h1, h2, St.gc_mk (by simp only [List.map_cons, List.map_nil, lk, Nat.reduceEqDiff, reduceIte, e382, e381, e7, e9, e24, e29, e33, e38, e39, e41, e42, e43, e45, e46, e49, e50, e51]; rfl) rfl rfl rfl⟩ ?_ ?_
    · rintro n st ⟨_, _, _, _, _, rfl⟩; exact ⟨rfl, rfl⟩
    · rintro n st hn' ⟨sf, nv, cm, h1, h2, rfl⟩
      have hwh : IntKind.i64.wrap ((n : Int) + 1) = ((n + 1 : Nat) : Int) := by rw [wrap_id (by omega) (by omega)]; omega
      have hg : s.huts[n]? = some s.huts[n] := List.getElem?_eq_getElem hn'
      have q13 := S.Floats_ok s hs n _ hg
      have q15 := S.Row_ok s hs hg hA hC' hAl hCl (i := j) (by omega)
      have hro := hs.rows
      have hhu := hs.huts _ (List.getElem_mem hn')
      obtain ⟨l1, l2⟩ := hfl _ (List.getElem_mem hn')
      have hsm := S.mask_lt9 hs (S.sureB s s.huts[n])
      have hcm := S.mask_lt9 hs (S.canB s s.huts[n])
      have hb1 := bit_eq (a := S.sureM s s.huts[n]) (i := j) (by show S.maskOf _ _ < _; omega)
      have hb0 := bit_eq0 (a := S.canM s s.huts[n]) (i := j) (by show S.maskOf _ _ < _; omega)
      have hrle := S.runP_le s s.huts[n] ((A.zip C).take j)
      have hr1 : S.rowT s s.huts[n] A C j ≤ 5 ∧ -1 ≤ S.rowT s s.huts[n] A C j := by
        unfold S.Hu.OK at hhu
        unfold S.rowT
        omega
      have q14 := S.rLifts_ok s hs hg (row := S.rowT s s.huts[n] A C j) hba hbc hr1.1
      rw [S.liI_K hr1.2, show (S.rowT s s.huts[n] A C j + 1).toNat = S.runP s s.huts[n] ((A.zip C).take j) by unfold S.rowT; omega,
        show S.liftK s.step s.huts[n].floor (A.getD j 0) (C.getD j 0) (S.runP s s.huts[n] ((A.zip C).take j)) = S.floT s s.huts[n] A C j from rfl] at q14
      clear hro hhu hsm hcm hrle hr1 hfl hg
      generalize S.rowT s s.huts[n] A C j = ro at *
      generalize S.floT s s.huts[n] A C j = fl at *
      generalize A.getD j 0 = va at *
      generalize C.getD j 0 = vc at *
      generalize (S.sureM s s.huts[n]).testBit j = sb at *
      generalize (S.canM s s.huts[n]).testBit j = cb at *
      generalize S.sureM s s.huts[n] = sm at *
      generalize S.canM s s.huts[n] = cam at *
      simp only [S.su5, S.twoE] at q13 q14 q15
      simp only [S.su5, go_sem, Nat.reduceEqDiff, Nat.reduceAdd]
      refine ACallL.quiet1 q13 rfl rfl rfl ?_
      cases cm
      · have hsf : sf = false := by
          cases sf
          · rfl
          · cases h1 rfl
        subst hsf
        cases nv
        · simp only [S.su5, go_sem, Nat.reduceEqDiff, Nat.reduceAdd, undef, beq_self_eq_true, bne_self_eq_false, undef, nat_neg, Option.map_some, hb1, hwh]
          exact ⟨_, Sub.gc [] [434, 433, 382, 381, 7, 9, 24, 29, 33, 38, 39, 41, 42, 43, 45, 46, 49, 50, 51] rfl rfl, false, sb, false, (fun h => by cases h), (fun _ => rfl), rfl⟩
        · simp only [S.su5, go_sem, Nat.reduceEqDiff, Nat.reduceAdd, Bool.not_true, undef, bne_self_eq_false, undef, Option.map_some, hwh]
          exact ⟨_, Sub.gc [] [434, 433, 382, 381, 7, 9, 24, 29, 33, 38, 39, 41, 42, 43, 45, 46, 49, 50, 51] rfl rfl, false, true, false, (fun h => by cases h), (fun _ => rfl), rfl⟩
      · have hnv : nv = false := by
          cases nv
          · rfl
          · cases h2 rfl
        subst hnv
        cases sf
        · simp only [go_sem, Nat.reduceEqDiff, Nat.reduceAdd, undef, beq_self_eq_true, bne_self_eq_false, undef, nat_neg, List.getElem?_map, hgA, hgC, Option.map_some, hb1]
          refine ACallL.quiet1 q15 rfl rfl rfl ?_
          simp only [go_sem, Nat.reduceEqDiff, Nat.reduceAdd, undef, beq_self_eq_true, undef, List.getElem?_map, hgA, hgC, Option.map_some]
          refine ACallL.quiet1 q14 rfl rfl rfl ?_
          simp only [S.su5, go_sem, Nat.reduceEqDiff, Nat.reduceAdd, undef, beq_self_eq_true, undef, List.getElem?_map, hgA, hgC, Option.map_some, hwh]
          exact ⟨_, Sub.gc [] [434, 433, 382, 381, 7, 9, 24, 29, 33, 38, 39, 41, 42, 43, 45, 46, 49, 50, 51] rfl rfl, false, sb, (!fl), (fun h => by cases h), (fun h => by rw [l1 h]; rfl), rfl⟩
        · simp only [go_sem, Nat.reduceEqDiff, Nat.reduceAdd, beq_self_eq_true, bne_self_eq_false, nat_neg, List.getElem?_map, hgA, hgC, Option.map_some, hb1, hb0]
          refine ACallL.quiet1 q15 rfl rfl rfl ?_
          simp only [go_sem, Nat.reduceEqDiff, Nat.reduceAdd, undef, beq_self_eq_true, undef, List.getElem?_map, hgA, hgC, Option.map_some]
          refine ACallL.quiet1 q14 rfl rfl rfl ?_
          simp only [S.su5, go_sem, Nat.reduceEqDiff, Nat.reduceAdd, undef, beq_self_eq_true, undef, List.getElem?_map, hgA, hgC, Option.map_some, hwh]
          exact ⟨_, Sub.gc [] [434, 433, 382, 381, 7, 9, 24, 29, 33, 38, 39, 41, 42, 43, 45, 46, 49, 50, 51] rfl rfl, (!cb), sb, (!fl), (fun h => by cases fl; rfl; rw [l2 rfl] at h; cases h), (fun h => by rw [l1 h]; rfl), rfl⟩
    · rintro st ⟨sf, nv, cm, h1, h2, rfl⟩
      cases sf <;> cases nv <;> cases cm <;> first | (cases h1 rfl; done) | (cases h2 rfl; done) | skip
      all_goals
        simp only [go_sem, Nat.reduceEqDiff, Bool.not_true, undef, beq_self_eq_true, undef, hwj]
        exact ⟨_, Sub.gc [] [382, 381, 7, 9, 24, 29, 33, 38, 39, 41, 42, 43, 45] rfl rfl, rfl⟩
  · rintro st rfl
    simp only [go_sem]
    refine ACallL.quiet1 awake12_ok rfl rfl rfl ?_
    simp only [go_sem, Nat.reduceEqDiff]
    exact finL_ret [] ⟨rfl, rfl, rfl, rfl, _, rfl, res_mk rfl⟩
end Go.Proofs.YtbhbbjngndmnmaaGreatDoor
