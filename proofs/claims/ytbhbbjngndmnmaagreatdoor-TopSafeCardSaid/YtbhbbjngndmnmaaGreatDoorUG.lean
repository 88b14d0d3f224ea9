/- Proved here: laws that the statements need (TpG). No conditions but those that each law states. -/
import Derived.Test.YtbhbbjngndmnmaaGreatDoorUF
import Derived.Test.YtbhbbjngndmnmaaGreatDoorUA
set_option linter.unusedSimpArgs false
set_option linter.unusedVariables false
namespace Go.Proofs.YtbhbbjngndmnmaaGreatDoor
open Go Go.Ab
abbrev tU (n : Nat) : T := .lit (.int .u8 n)
abbrev tB8 (ws : List Nat) : T := .slice 1 (ws.map fun w : Nat => .lit (.int .u8 w))
theorem row_app {α : Type} (g : α → T) (K : List α) (x : α) {kp : List Nat} {σ : List AO} {n : Nat} : (List.map E.t (List.map g K) ++ [E.t (g x)]).map (E.gc kp σ (n + 1)) = ((K ++ [x]).map g).map E.t := by
  rw [List.map_append, gc_row, List.map_append, List.map_append]
  rfl
structure Fine (s : S.Su) (f : F.Fl) (b : B.Bo) : Prop where
  so : s.OK
  fo : f.OK
  bo : b.OK
  ne : b.seen ≠ []
def M0 (s : S.Su) (f : F.Fl) (b : B.Bo) (r : Nat) (ws : List Nat) (u : Nat) (vs : List Nat) (st : St) : Prop :=
  Fine s f b ∧ lk st.env 3 = .t (tU r) ∧ lk st.env 4 = .t (tBy ws) ∧ lk st.env 5 = .t (tU u) ∧ lk st.env 6 = .t (tB8 vs) ∧ lk st.env 7 = .ptr 0 0 ∧ lk st.env 8 = .ptr 1 0 ∧ lk st.env 9 = .ptr 2 0 ∧
  st.σ = [.cells ((S.su5 s).map .t), .cells ((F.fl5 f).map .t), .cells ((B.bo5 b).map .t)] ∧ st.df = [] ∧ st.k = 0
def M1 (s : S.Su) (f : F.Fl) (b : B.Bo) (r : Nat) (ws : List Nat) (u : Nat) (vs : List Nat) (st : St) : Prop := ∃ (k : Nat) (K : List Nat), K.length = f.hs.length ∧ k ≤ 2 * f.hs.length ∧ F.Rk f K ∧
  st = { env := [(117, .t (vb false)), (116, .t (vi f.hs.length)), (115, .t (vi f.hs.length)), (114, .t (.slice 3 (f.hs.map F.tHr))), (3, .t (tU r)), (5, .t (tU u)), (6, .t (tB8 vs)), (7, .t (.ptr (.agg (S.su5 s)) 0)), (8, .t (.ptr (.agg (F.fl5 f)) 0)), (9, .t (.ptr (.agg (B.bo5 b)) 0)), (18, .fn (.func 26) [] [.ptr 0 0, .t (.ptr (.agg [tBy ws]) 0)]), (19, .loc 1 f.hs.length)], σ := [.cells [.t (vi k)], .row 1 ((K.map fun z : Nat => vi z).map .t)] }
theorem gc2 (x : T) (es : Nat) (xs : List T) : σgc [0, 1] [.cells [.t x], .row es (xs.map .t)] 12 = [.cells [.t x], .row es (xs.map .t)] := by
  show [AO.cells _, AO.row es ((xs.map .t).map (E.gc _ _ 12))] = _
  rw [gc_row]
  rfl
theorem gcX (A : AO) (a b c d : T) (xs : List T) (n : Nat) (hn : n = xs.length) : E.gc [0] [A, .cells [.t a, .t b, .t c, .t d, .loc 2 n], .row 2 (xs.map .t)] 12 (.ptr 1 0) = .t (.ptr (.agg [a, b, c, d, .slice 2 xs]) 0) := by
  rw [E.gc]
  simp only [pos?, Nat.reduceEqDiff, reduceIte, Option.map_none, List.getElem?_cons_succ, List.getElem?_cons_zero, List.map_cons, List.map_nil, gc_t]
  rw [gc_loc (n := 9) (xs := xs) rfl rfl hn]
  rfl
def M2 (s : S.Su) (f : F.Fl) (b : B.Bo) (r : Nat) (ws : List Nat) (u : Nat) (vs : List Nat) (st : St) : Prop := ∃ (k : Nat) (K : List Nat), K.length = f.hs.length ∧ k ≤ 2 * f.hs.length ∧ K ∈ F.rows f ∧
  st = { env := [(170, .t (vb false)), (169, .t (vi f.ss.length)), (168, .t (vi f.ss.length)), (167, .t (.slice 2 (f.ss.map F.tSn))), (3, .t (tU r)), (5, .t (tU u)), (6, .t (tB8 vs)), (7, .t (.ptr (.agg (S.su5 s)) 0)), (8, .t (.ptr (.agg (F.fl5 f)) 0)), (9, .t (.ptr (.agg (B.bo5 b)) 0)), (18, .fn (.func 26) [] [.ptr 0 0, .t (.ptr (.agg [tBy ws]) 0)]), (24, .t (.slice 1 ((F.ups f K).map vb))), (25, .ptr 1 0)], σ := [.cells [.t (vi k)], .cells [.t (vi f.low), .t (vi f.high), .t (vi f.quiet), .t (.slice 3 (f.hs.map F.tHr)), .loc 2 f.ss.length], .row 2 (((F.seenU f K).map F.tSn).map .t)] }
def M3 (s : S.Su) (f : F.Fl) (b : B.Bo) (r : Nat) (ws vs : List Nat) (st : St) : Prop := ∃ (k : Nat) (K CL : List Nat) (p : Nat), K.length = f.hs.length ∧ k ≤ 2 * f.hs.length ∧ K ∈ F.rows f ∧ B.Crs b CL b.L p ∧
  st = { env := [(200, .t (vb false)), (199, .t (vi b.L)), (198, .t (vi b.last)), (3, .t (tU r)), (6, .t (tB8 vs)), (7, .t (.ptr (.agg (S.su5 s)) 0)), (8, .t (.ptr (.agg (F.fl5 f)) 0)), (9, .t (.ptr (.agg (B.bo5 b)) 0)), (18, .fn (.func 26) [] [.ptr 0 0, .t (.ptr (.agg [tBy ws]) 0)]), (24, .t (.slice 1 ((F.ups f K).map vb))), (25, .t (.ptr (.agg (F.fl5 (F.trueF f K))) 0)), (28, .t (vi p)), (29, .loc 1 (b.L + 1))], σ := [.cells [.t (vi k)], .row 1 ((CL.map fun z : Nat => vi z).map .t)] }
def c3d : AC := (chop 14 c3).2
set_option maxRecDepth 8000 in
set_option maxHeartbeats 8000000 in
theorem TopSafe_head (s : S.Su) (f : F.Fl) (b : B.Bo) (hsl : S.Lens s) (hfl : f.hs.length < 9223372036854775808 ∧ f.ss.length < 9223372036854775808) (hbl : B.Lens b) (r : Nat) (hr : r < 256) (ws : List Nat) (hw : ∀ w ∈ ws, w < 65536) (hwl : ws.length < 9223372036854775808)
    (u : Nat) (hu : u < 256) (vs : List Nat) (hv : ∀ v ∈ vs, v < 256) (hvl : vs.length < 9223372036854775808)
    (ht : Fine s f b → ∀ st, M3 s f b r ws vs st → @awpL { P := Tryz.prog, nb := 0, pn := [] } ⟨c3d⟩ ⟨fun e s => @finL 0 0 ⟨[.tmp 14]⟩ ⟨ret (vb true)⟩ e s⟩ st) :
    ACall Tryz.prog 3 [.t (.agg (S.su5 s)), .t (.agg (F.fl5 f)), .t (.agg (B.bo5 b)), .t (tU r), .t (tBy ws), .t (tU u), .t (tB8 vs)] [] (ret (vb true)) := by
  refine ACall.walk k3 ?_
  unfold c3
  refine awpL_chop 4 (c1 := ?c1) (c2 := ?c2) (M0 s f b r ws u vs) ?hc ?_ ?_
  case hc => simp only [chop]; rfl
  · have q4 := S.rsurf_ok s hsl
    have q5 := F.rflag_ok f hfl
    have q6 := B.rboats_ok b hbl
    unfold S.su5 at q4 ⊢
    unfold F.fl5 at q5 ⊢
    unfold B.bo5 at q6 ⊢
    have hbn := hbl.1
    simp only [go_sem, Nat.reduceEqDiff, Nat.reduceAdd, Nat.reduceLeDiff, List.length_map]
    refine awpL_for (i := 78) (L := 77) b.seen.length (fun j st => ∃ m : Int, st = { env := [(78, .t (vi j)), (77, .t (vi b.seen.length)), (3, .t (tU r)), (4, .t (tBy ws)), (5, .t (tU u)), (6, .t (tB8 vs)), (7, .ptr 0 0), (8, .ptr 1 0), (9, .ptr 2 0), (14, .t (vb false)), (15, .t (vi m)), (76, .t (.slice 1 (b.seen.map B.tSis)))], σ := [.cells ((S.su5 s).map .t), .cells ((F.fl5 f).map .t), .cells ((B.bo5 b).map .t)] }) ?_ ⟨_, Sub.gc [0, 1, 2] [78, 77, 3, 4, 5, 6, 7, 8, 9, 14, 15, 76] rfl rfl, _, rfl⟩ ?_ ?_
    · rintro k st ⟨m, rfl⟩; exact ⟨rfl, rfl⟩
    · rintro j st hj ⟨m, rfl⟩
      have hwj : IntKind.i64.wrap ((j : Int) + 1) = ((j + 1 : Nat) : Int) := by rw [wrap_id (by omega) (by omega)]; omega
      have hx : b.seen[j]? = some b.seen[j] := List.getElem?_eq_getElem hj
      generalize b.seen[j] = x at *
      simp only [go_sem, Nat.reduceEqDiff, List.length_map, List.getElem?_map, hx, Option.map_some, B.tSis, hwj]
      exact ⟨_, Sub.gc [0, 1, 2] [78, 77, 3, 4, 5, 6, 7, 8, 9, 14, 15, 76] rfl rfl, _, rfl⟩
    · rintro st ⟨m, rfl⟩
      have qa := awake12_ok
      cases g1 : decide (m > 40)
      rotate_left
      · simp only [S.su5, F.fl5, B.bo5, go_sem, Nat.reduceEqDiff, Bool.not_true, undef, undef, g1]
        refine ACallL.quiet1 qa rfl rfl rfl ?_
        simp only [go_sem, Nat.reduceEqDiff]
        exact finL_ret [] ⟨rfl, rfl, rfl, rfl, _, rfl, res_mk rfl⟩
      simp only [S.su5, F.fl5, B.bo5, go_sem, Nat.reduceEqDiff, Nat.reduceAdd, beq_self_eq_true, g1]
      refine ACallL.quiet1 q4 rfl rfl rfl ?_
      cases hs : s.ok
      · simp only [go_sem, Nat.reduceEqDiff, Bool.not_true, Bool.not_false, undef, beq_self_eq_true, undef]
        refine ACallL.quiet1 qa rfl rfl rfl ?_
        simp only [go_sem, Nat.reduceEqDiff]
        exact finL_ret [] ⟨rfl, rfl, rfl, rfl, _, rfl, res_mk rfl⟩
      simp only [go_sem, Nat.reduceEqDiff, Nat.reduceAdd, Bool.not_true, beq_self_eq_true]
      refine ACallL.quiet1 q5 rfl rfl rfl ?_
      cases hf : f.ok
      · simp only [go_sem, Nat.reduceEqDiff, Bool.not_true, Bool.not_false, undef, beq_self_eq_true, undef]
        refine ACallL.quiet1 qa rfl rfl rfl ?_
        simp only [go_sem, Nat.reduceEqDiff]
        exact finL_ret [] ⟨rfl, rfl, rfl, rfl, _, rfl, res_mk rfl⟩
      simp only [go_sem, Nat.reduceEqDiff, Nat.reduceAdd, Bool.not_true, beq_self_eq_true]
      refine ACallL.quiet1 q6 rfl rfl rfl ?_
      cases hb : b.ok
      · simp only [go_sem, Nat.reduceEqDiff, Bool.not_true, Bool.not_false, undef, beq_self_eq_true, undef]
        refine ACallL.quiet1 qa rfl rfl rfl ?_
        simp only [go_sem, Nat.reduceEqDiff]
        exact finL_ret [] ⟨rfl, rfl, rfl, rfl, _, rfl, res_mk rfl⟩
      cases g2 : ((b.seen.length : Int) == 0)
      rotate_left
      · simp only [go_sem, Nat.reduceEqDiff, Nat.reduceAdd, Bool.not_true, beq_self_eq_true, List.length_map, g2]
        refine ACallL.quiet1 qa rfl rfl rfl ?_
        simp only [go_sem, Nat.reduceEqDiff]
        exact finL_ret [] ⟨rfl, rfl, rfl, rfl, _, rfl, res_mk rfl⟩
      simp only [go_sem, Nat.reduceEqDiff, Nat.reduceAdd, Bool.not_true, beq_self_eq_true, List.length_map, g2]
      exact ⟨⟨(s.ok_iff).1 hs, (f.ok_iff).1 hf, (b.ok_iff).1 hb, fun e => by rw [e] at g2; cases g2⟩, rfl, rfl, rfl, rfl, rfl, rfl, rfl, rfl, rfl, rfl⟩
  clear hsl hfl hbl
  rintro ⟨env, σ, df, k⟩ ⟨⟨hs, hf, hb, hne⟩, e3, e4, e5, e6, e7, e8, e9, hσ, hdf, hk⟩
  simp only at e3 e4 e5 e6 e7 e8 e9 hσ hdf hk
  subst hσ hdf hk
  have hn := hf.nh
  refine awpL_chop 3 (c1 := ?d1) (c2 := ?d2) (M1 s f b r ws u vs) ?hd ?_ ?_
  case hd => simp only [chop]; rfl
  · rw [awpL_seq, awpL_seq]
    refine awpL_gcpE [] [3, 4, 5, 6, 7, 8, 9] { env := [(3, .t (tU r)), (4, .t (tBy ws)), (5, .t (tU u)), (6, .t (tB8 vs)), (7, .t (.ptr (.agg (S.su5 s)) 0)), (8, .t (.ptr (.agg (F.fl5 f)) 0)), (9, .t (.ptr (.agg (B.bo5 b)) 0))], σ := [], df := [], k := 0 } (St.gc_mk (by simp only [List.map_cons, List.map_nil, e3, e4, e5, e6, e7, e8, e9]; rfl) rfl rfl rfl) rfl rfl ?_
    simp only [go_sem, Nat.reduceEqDiff]
    refine drawsL ws ?_
    simp only [F.fl5, go_sem, Nat.reduceEqDiff, Nat.reduceAdd, List.length_map]
    refine awpL_for (i := 116) (L := 115) f.hs.length (fun j st => ∃ k K, K.length = j ∧ k ≤ 2 * j ∧ F.Rk f K ∧ st = { env := [(116, .t (vi j)), (115, .t (vi f.hs.length)), (114, .t (.slice 3 (f.hs.map F.tHr))), (3, .t (tU r)), (5, .t (tU u)), (6, .t (tB8 vs)), (7, .t (.ptr (.agg (S.su5 s)) 0)), (8, .t (.ptr (.agg (F.fl5 f)) 0)), (9, .t (.ptr (.agg (B.bo5 b)) 0)), (18, .fn (.func 26) [] [.ptr 0 0, .t (.ptr (.agg [tBy ws]) 0)]), (19, .loc 1 j)], σ := [.cells [.t (vi (k : Nat))], .row 1 ((K.map fun z : Nat => vi z).map .t)] }) ?_
      ⟨_, (Sub.ghost 19 1 (by decide) rfl).trans (Sub.gc [0, 1] [116, 115, 114, 3, 5, 6, 7, 8, 9, 18, 19] rfl rfl), 0, [], rfl, Nat.le_refl _, F.Rk_nil f, rfl⟩ ?_ ?_
    · rintro j st ⟨k, K, _, _, _, rfl⟩; exact ⟨rfl, rfl⟩
    · rintro j st hj ⟨k, K, rfl, hk, hK, rfl⟩
      have hwj : IntKind.i64.wrap ((K.length : Int) + 1) = ((K.length + 1 : Nat) : Int) := by rw [wrap_id (by omega) (by omega)]; omega
      have hx : f.hs[K.length]? = some f.hs[K.length] := List.getElem?_eq_getElem hj
      have hxo := hf.hs _ (List.getElem_mem hj)
      generalize f.hs[K.length] = x at *
      obtain ⟨lo, hi, th⟩ := x
      simp only at hxo
      have d1 := draw_ok ws hw hwl k (by omega) lo hi (by omega)
      have d2 := draw_ok ws hw hwl (k + 1) (by omega) 0 1 (by omega)
      have i1 := drawI_in ws (k + 1) (lo := lo) (hi := hi) (by omega)
      have hsn := fun th' h1 h2 => F.Rk_snoc hK hx (w := drawI ws (k + 1) lo hi) i1 (th := th') h1 h2
      generalize drawI ws (k + 1) lo hi = w at *
      generalize drawI ws (k + 1 + 1) 0 1 = t at *
      simp only [F.fl5, go_sem, Nat.reduceEqDiff, Nat.reduceAdd, Nat.reduceLeDiff, undef, undef, List.getElem?_map, hx, Option.map_some, F.tHr]
      refine S.lend1 (m := 0) d1 rfl rfl rfl ?_
      rintro o a ⟨rfl, rfl⟩
      cases e1 : (th == 2)
      rotate_left
      · simp only [F.fl5, go_sem, Nat.reduceEqDiff, Nat.reduceAdd, Nat.reduceLT, Nat.reduceLeDiff, Bool.not_true, undef, undef, Out.ren, E.ren, E.rens, AO.ren, List.length_map, Option.map_some, hwj]
        have hsn := hsn true (fun _ => by have := eq_of_beq e1; simp only; omega) (fun h => by cases h)
        rw [show F.kindK f w true = 2 from if_pos (.inl rfl)] at hsn
        exact ⟨⟨by unfold maxLen; omega, by omega⟩, _, Sub.gc [0, 1] [116, 115, 114, 3, 5, 6, 7, 8, 9, 18, 19] rfl rfl, k + 1, K ++ [2], by simp, by omega, hsn, St.gc_mk rfl (congrArg (fun z => [AO.cells [E.t _], AO.row 1 z]) (row_app (fun z : Nat => vi z) K _)) rfl rfl⟩
      cases e2 : (th == 1)
      · simp only [go_sem, Nat.reduceEqDiff, Nat.reduceAdd, Nat.reduceLeDiff, undef, beq_self_eq_true, undef, Out.ren, E.ren, E.rens, AO.ren, Option.map_some, e2]
        cases e4 : decide (w ≥ f.high)
        rotate_left
        · simp only [F.fl5, go_sem, Nat.reduceEqDiff, Nat.reduceAdd, Nat.reduceLT, List.length_map, hwj]
          have hsn := hsn false (fun h => by cases h) (fun _ => by simpa using e1)
          rw [show F.kindK f w false = 2 from if_pos (.inr (of_decide_eq_true e4))] at hsn
          exact ⟨⟨by unfold maxLen; omega, by omega⟩, _, Sub.gc [0, 1] [116, 115, 114, 3, 5, 6, 7, 8, 9, 18, 19] rfl rfl, k + 1, K ++ [2], by simp, by omega, hsn, St.gc_mk rfl (congrArg (fun z => [AO.cells [E.t _], AO.row 1 z]) (row_app (fun z : Nat => vi z) K _)) rfl rfl⟩
        cases e5 : decide (w < f.low)
        · simp only [F.fl5, go_sem, Nat.reduceEqDiff, Nat.reduceAdd, Nat.reduceLT, List.length_map, Option.map_some, hwj, e5]
          have hsn := hsn false (fun h => by cases h) (fun _ => by simpa using e1)
          rw [show F.kindK f w false = 1 from (if_neg (by have := of_decide_eq_false e4; simp; omega)).trans (if_neg (of_decide_eq_false e5))] at hsn
          exact ⟨⟨by unfold maxLen; omega, by omega⟩, _, Sub.gc [0, 1] [116, 115, 114, 3, 5, 6, 7, 8, 9, 18, 19] rfl rfl, k + 1, K ++ [1], by simp, by omega, hsn, St.gc_mk rfl (congrArg (fun z => [AO.cells [E.t _], AO.row 1 z]) (row_app (fun z : Nat => vi z) K _)) rfl rfl⟩
        · simp only [F.fl5, go_sem, Nat.reduceEqDiff, Nat.reduceAdd, Nat.reduceLT, List.length_map, Option.map_some, hwj, e5]
          have hsn := hsn false (fun h => by cases h) (fun _ => by simpa using e1)
          rw [show F.kindK f w false = 0 from (if_neg (by have := of_decide_eq_false e4; simp; omega)).trans (if_pos (of_decide_eq_true e5))] at hsn
          exact ⟨⟨by unfold maxLen; omega, by omega⟩, _, Sub.gc [0, 1] [116, 115, 114, 3, 5, 6, 7, 8, 9, 18, 19] rfl rfl, k + 1, K ++ [0], by simp, by omega, hsn, St.gc_mk rfl (congrArg (fun z => [AO.cells [E.t _], AO.row 1 z]) (row_app (fun z : Nat => vi z) K _)) rfl rfl⟩
      · simp only [go_sem, Nat.reduceEqDiff, Nat.reduceAdd, beq_self_eq_true, Out.ren, E.ren, E.rens, AO.ren, Option.map_some, e2]
        refine ACallL.quiet1 (span4_ok 0 1) rfl rfl rfl ?_
        simp only [go_sem, Nat.reduceEqDiff, Nat.reduceAdd, Nat.reduceLeDiff, undef, beq_self_eq_true, undef, Option.map_some]
        refine S.lend1 (m := 0) d2 rfl rfl rfl ?_
        rintro o a ⟨rfl, rfl⟩
        cases e3 : (t == 1)
        · simp only [go_sem, Nat.reduceEqDiff, Nat.reduceAdd, Nat.reduceLeDiff, undef, beq_self_eq_true, undef, Out.ren, E.ren, E.rens, AO.ren, Option.map_some, e3]
          cases e4 : decide (w ≥ f.high)
          rotate_left
          · simp only [F.fl5, go_sem, Nat.reduceEqDiff, Nat.reduceAdd, Nat.reduceLT, List.length_map, hwj]
            have hsn := hsn false (fun h => by cases h) (fun _ => by simpa using e1)
            rw [show F.kindK f w false = 2 from if_pos (.inr (of_decide_eq_true e4))] at hsn
            exact ⟨⟨by unfold maxLen; omega, by omega⟩, _, Sub.gc [0, 1] [116, 115, 114, 3, 5, 6, 7, 8, 9, 18, 19] rfl rfl, k + 1 + 1, K ++ [2], by simp, by omega, hsn, St.gc_mk rfl (congrArg (fun z => [AO.cells [E.t _], AO.row 1 z]) (row_app (fun z : Nat => vi z) K _)) rfl rfl⟩
          cases e5 : decide (w < f.low)
          · simp only [F.fl5, go_sem, Nat.reduceEqDiff, Nat.reduceAdd, Nat.reduceLT, List.length_map, Option.map_some, hwj, e5]
            have hsn := hsn false (fun h => by cases h) (fun _ => by simpa using e1)
            rw [show F.kindK f w false = 1 from (if_neg (by have := of_decide_eq_false e4; simp; omega)).trans (if_neg (of_decide_eq_false e5))] at hsn
            exact ⟨⟨by unfold maxLen; omega, by omega⟩, _, Sub.gc [0, 1] [116, 115, 114, 3, 5, 6, 7, 8, 9, 18, 19] rfl rfl, k + 1 + 1, K ++ [1], by simp, by omega, hsn, St.gc_mk rfl (congrArg (fun z => [AO.cells [E.t _], AO.row 1 z]) (row_app (fun z : Nat => vi z) K _)) rfl rfl⟩
          · simp only [F.fl5, go_sem, Nat.reduceEqDiff, Nat.reduceAdd, Nat.reduceLT, List.length_map, Option.map_some, hwj, e5]
            have hsn := hsn false (fun h => by cases h) (fun _ => by simpa using e1)
            rw [show F.kindK f w false = 0 from (if_neg (by have := of_decide_eq_false e4; simp; omega)).trans (if_pos (of_decide_eq_true e5))] at hsn
            exact ⟨⟨by unfold maxLen; omega, by omega⟩, _, Sub.gc [0, 1] [116, 115, 114, 3, 5, 6, 7, 8, 9, 18, 19] rfl rfl, k + 1 + 1, K ++ [0], by simp, by omega, hsn, St.gc_mk rfl (congrArg (fun z => [AO.cells [E.t _], AO.row 1 z]) (row_app (fun z : Nat => vi z) K _)) rfl rfl⟩
        · simp only [F.fl5, go_sem, Nat.reduceEqDiff, Nat.reduceAdd, Nat.reduceLT, Nat.reduceLeDiff, Bool.not_true, undef, beq_self_eq_true, undef, Out.ren, E.ren, E.rens, AO.ren, List.length_map, Option.map_some, hwj, e3]
          have hsn := hsn true (fun _ => by have := eq_of_beq e2; simp only; omega) (fun h => by cases h)
          rw [show F.kindK f w true = 2 from if_pos (.inl rfl)] at hsn
          exact ⟨⟨by unfold maxLen; omega, by omega⟩, _, Sub.gc [0, 1] [116, 115, 114, 3, 5, 6, 7, 8, 9, 18, 19] rfl rfl, k + 1 + 1, K ++ [2], by simp, by omega, hsn, St.gc_mk rfl (congrArg (fun z => [AO.cells [E.t _], AO.row 1 z]) (row_app (fun z : Nat => vi z) K _)) rfl rfl⟩
    · rintro st ⟨k, K, h1, h2, h3, rfl⟩
      simp only [go_sem]
      exact ⟨k, K, h1, h2, h3, rfl⟩
  intro st hst
  refine awpL_chop 4 (c1 := ?e1) (c2 := ?e2) (M2 s f b r ws u vs) ?he ?_ ?_
  case he => simp only [chop]; rfl
  · obtain ⟨k, K, hKl, hk, hK, rfl⟩ := hst
    rw [awpL_seq, awpL_seq]
    refine awpL_gcpE [0] [3, 5, 6, 7, 8, 9, 18, 19] { env := [(3, .t (tU r)), (5, .t (tU u)), (6, .t (tB8 vs)), (7, .t (.ptr (.agg (S.su5 s)) 0)), (8, .t (.ptr (.agg (F.fl5 f)) 0)), (9, .t (.ptr (.agg (B.bo5 b)) 0)), (18, .fn (.func 26) [] [.ptr 0 0, .t (.ptr (.agg [tBy ws]) 0)]), (19, .t (F.tK K))], σ := [.cells [.t (vi k)]], df := [], k := 0 } (St.gc_mk (by
      simp only [List.map_cons, List.map_nil, lk, Nat.reduceEqDiff, reduceIte]
      rw [gc_loc (n := 10) (id := 1) (xs := K.map fun z : Nat => vi z) rfl rfl (by simp [hKl])]
      rfl) rfl rfl rfl) rfl rfl ?_
    have q10 := F.raised_ok f hf.quiet.1 K (by omega) (fun z hz => by
      obtain ⟨i, hi⟩ := List.getElem?_of_mem hz
      exact (hK i z hi).1)
    have hss := hf.ns
    have hul : (F.ups f K).length = f.hs.length := by rw [F.upsP_len, hKl]
    have hUa : ∀ m, F.upAt f K m = (F.ups f K).getD m false := fun m => rfl
    have hsl : (F.seenU f K).length = f.ss.length := by simp
    have hrows := F.Rk_rows hK hKl
    generalize hU : F.ups f K = U at *
    simp only [F.fl5] at q10
    simp only [F.fl5, go_sem, Nat.reduceEqDiff, Nat.reduceAdd]
    refine ACallL.fresh1 q10 rfl ?_
    simp only [go_sem, Nat.reduceEqDiff, Nat.reduceAdd, undef, undef, List.length_map]
    refine awpL_for (i := 169) (L := 168) f.ss.length (fun j st => st = { env := [(169, .t (vi j)), (168, .t (vi f.ss.length)), (167, .t (.slice 2 (f.ss.map F.tSn))), (3, .t (tU r)), (5, .t (tU u)), (6, .t (tB8 vs)), (7, .t (.ptr (.agg (S.su5 s)) 0)), (8, .t (.ptr (.agg (F.fl5 f)) 0)), (9, .t (.ptr (.agg (B.bo5 b)) 0)), (18, .fn (.func 26) [] [.ptr 0 0, .t (.ptr (.agg [tBy ws]) 0)]), (24, .t (.slice 1 (U.map vb))), (25, .ptr 1 0)], σ := [.cells [.t (vi k)], .cells [.t (vi f.low), .t (vi f.high), .t (vi f.quiet), .t (.slice 3 (f.hs.map F.tHr)), .loc 2 j], .row 2 ((((F.seenU f K).take j).map F.tSn).map .t)] }) ?_
      ⟨_, (Sub.ghostC 1 4 2 (by decide) rfl rfl).trans (Sub.gc [0, 1, 2] [169, 168, 167, 3, 5, 6, 7, 8, 9, 18, 24, 25] rfl rfl), rfl⟩ ?_ ?_
    · rintro j st rfl; exact ⟨rfl, rfl⟩
    · rintro j st hj rfl
      have hwj : IntKind.i64.wrap ((j : Int) + 1) = ((j + 1 : Nat) : Int) := by rw [wrap_id (by omega) (by omega)]; omega
      have hx : f.ss[j]? = some f.ss[j] := List.getElem?_eq_getElem hj
      have hxo := hf.ss _ (List.getElem_mem hj)
      have htk : (F.seenU f K).take (j + 1) = (F.seenU f K).take j ++ [⟨f.ss[j].h, F.upAt f K f.ss[j].h.toNat⟩] := by
        rw [List.take_add_one, List.getElem?_map, hx]; rfl
      have htl : ((F.seenU f K).take j).length = j := by rw [List.length_take, hsl]; omega
      rw [hUa] at htk
      generalize (F.seenU f K).take (j + 1) = O1 at *
      generalize (F.seenU f K).take j = O at *
      generalize f.ss[j] = x at *
      obtain ⟨sh, sup⟩ := x
      simp only at hxo
      obtain ⟨m, rfl⟩ : ∃ m : Nat, sh = m := ⟨sh.toNat, by omega⟩
      have hm : U[m]? = some (U.getD m false) := by rw [List.getD_eq_getElem?_getD, List.getElem?_eq_getElem (by omega)]; rfl
      simp only [Int.toNat_natCast] at htk
      generalize U.getD m false = um at *
      subst htl
      simp only [F.fl5, go_sem, Nat.reduceEqDiff, Nat.reduceAdd, Nat.reduceLT, Nat.reduceLeDiff, undef, undef, List.length_map, List.getElem?_map, hx, hm, Option.map_some, F.tSn, hwj]
      refine ⟨⟨by unfold maxLen; omega, by omega⟩, _, Sub.gc [0, 1, 2] [169, 168, 167, 3, 5, 6, 7, 8, 9, 18, 24, 25] rfl rfl, ?_⟩
      rw [htk]
      exact St.gc_mk rfl (congrArg (fun z => [AO.cells [E.t _], AO.cells [_, _, _, _, _], AO.row 2 z]) (row_app F.tSn O ⟨_, _⟩)) rfl rfl
    · rintro st rfl
      simp only [go_sem]
      refine ⟨k, K, hKl, hk, hrows, ?_⟩
      rw [← hsl, List.take_length, hsl, ← hU]
  intro st hst
  refine awpL_chop 3 (c1 := ?f1) (c2 := ?f2) (M3 s f b r ws vs) ?hf ?_ ?_
  case hf => simp only [chop]; rfl
  · obtain ⟨k, K, hKl, hk, hrows, rfl⟩ := hst
    have hW := hb.W
    have hD := hb.D
    have hN := hb.N
    have hL := hb.L
    have hsp := hb.speed
    rw [awpL_seq, awpL_seq]
    refine awpL_gcpE [0] [3, 5, 6, 7, 8, 9, 18, 24, 25] { env := [(3, .t (tU r)), (5, .t (tU u)), (6, .t (tB8 vs)), (7, .t (.ptr (.agg (S.su5 s)) 0)), (8, .t (.ptr (.agg (F.fl5 f)) 0)), (9, .t (.ptr (.agg (B.bo5 b)) 0)), (18, .fn (.func 26) [] [.ptr 0 0, .t (.ptr (.agg [tBy ws]) 0)]), (24, .t (.slice 1 ((F.ups f K).map vb))), (25, .t (.ptr (.agg (F.fl5 (F.trueF f K))) 0))], σ := [.cells [.t (vi k)]], df := [], k := 0 } (St.gc_mk (by
      simp only [List.map_cons, List.map_nil, lk, Nat.reduceEqDiff, reduceIte]
      rw [gcX _ _ _ _ _ ((F.seenU f K).map F.tSn) _ (by simp)]
      rfl) rfl rfl rfl) rfl rfl ?_
    have cu : IntKind.i64.wrap (u : Int) = u := wrap_id (by omega) (by omega)
    have hWD : IntKind.i64.wrap (b.wide * b.deep) = (b.N : Int) := by rw [hN.2.2]; exact wrap_id (by omega) (by omega)
    have nN : ((b.N : Int) = 0) = False := eq_false (by omega)
    have nW : (b.wide = 0) = False := eq_false (by omega)
    have md := mod_nat u b.N
    have hp0 : u % b.N < b.N := Nat.mod_lt _ (by omega)
    generalize u % b.N = p0 at *
    generalize hUE : F.ups f K = U at *
    generalize hXE : F.trueF f K = x at *
    simp only [B.bo5, go_sem, Nat.reduceEqDiff, Nat.reduceAdd, Nat.reduceLT, cu, hWD, nN, md]
    refine awpL_loopK b.L (fun m st => ∃ CL p, B.Crs b CL m p ∧ p < b.N ∧ st = { env := [(199, .t (vi m)), (198, .t (vi b.last)), (3, .t (tU r)), (6, .t (tB8 vs)), (7, .t (.ptr (.agg (S.su5 s)) 0)), (8, .t (.ptr (.agg (F.fl5 f)) 0)), (9, .t (.ptr (.agg (B.bo5 b)) 0)), (18, .fn (.func 26) [] [.ptr 0 0, .t (.ptr (.agg [tBy ws]) 0)]), (24, .t (.slice 1 (U.map vb))), (25, .t (.ptr (.agg (F.fl5 x)) 0)), (28, .t (vi p)), (29, .loc 1 (m + 1))], σ := [.cells [.t (vi k)], .row 1 ((CL.map fun z : Nat => vi z).map .t)] })
      ⟨_, Sub.gc [0, 1] [199, 198, 3, 6, 7, 8, 9, 18, 24, 25, 28, 29] rfl rfl, [p0], p0, B.Crs.one hp0, hp0, rfl⟩ ?_
    rintro m st hm ⟨CL, p, hC, hp, rfl⟩
    have hwm : IntKind.i64.wrap ((m : Int) + 1) = ((m + 1 : Nat) : Int) := by rw [wrap_id (by omega) (by omega)]; omega
    cases g7 : decide ((m : Int) < b.last)
    · have : m = b.L := by have := of_decide_eq_false g7; omega
      subst this
      simp only [B.bo5, go_sem, Nat.reduceEqDiff, g7]
      subst hUE hXE
      exact ⟨k, K, CL, p, hKl, hk, hrows, hC, rfl⟩
    have hmL : m < b.L := by have := of_decide_eq_true g7; omega
    simp only [B.bo5, go_sem, Nat.reduceEqDiff, Nat.reduceAdd, g7]
    refine awpL_loopK b.speed.toNat (fun i st => ∃ q, q < b.N ∧ B.dist b p q ≤ i ∧ st = { env := [(204, .t (vi i)), (203, .t (vi b.speed)), (199, .t (vi m)), (198, .t (vi b.last)), (3, .t (tU r)), (6, .t (tB8 vs)), (7, .t (.ptr (.agg (S.su5 s)) 0)), (8, .t (.ptr (.agg (F.fl5 f)) 0)), (9, .t (.ptr (.agg (B.bo5 b)) 0)), (18, .fn (.func 26) [] [.ptr 0 0, .t (.ptr (.agg [tBy ws]) 0)]), (24, .t (.slice 1 (U.map vb))), (25, .t (.ptr (.agg (F.fl5 x)) 0)), (28, .t (vi q)), (29, .loc 1 (m + 1)), (30, .t (vi m))], σ := [.cells [.t (vi k)], .row 1 ((CL.map fun z : Nat => vi z).map .t)] })
      ⟨_, Sub.gc [0, 1] [204, 203, 199, 198, 3, 6, 7, 8, 9, 18, 24, 25, 28, 29, 30] rfl rfl, p, hp, by rw [B.dist_self]; exact Nat.le_refl _, St.gc_mk rfl (gc2 _ _ _) rfl rfl⟩ ?_
    rintro i st hi ⟨q, hq, hdq, rfl⟩
    have hwk : IntKind.i64.wrap ((i : Int) + 1) = ((i + 1 : Nat) : Int) := by rw [wrap_id (by omega) (by omega)]; omega
    cases g9 : decide ((i : Int) < b.speed)
    · have hCl := hC.len
      simp only [B.bo5, go_sem, Nat.reduceEqDiff, Nat.reduceAdd, Nat.reduceLT, g9, List.length_map, hCl, hwm]
      refine ⟨⟨by unfold maxLen; omega, by omega⟩, by omega, _, Sub.gc [0, 1] [199, 198, 3, 6, 7, 8, 9, 18, 24, 25, 28, 29] rfl rfl, CL ++ [q], q, hC.snoc hq (by omega), hq, St.gc_mk rfl (congrArg (fun z => [AO.cells [E.t _], AO.row 1 z]) (row_app (fun z : Nat => vi z) CL _)) rfl rfl⟩
    have hiS : i < b.speed.toNat := by have := of_decide_eq_true g9; omega
    cases g2 : decide ((vs.length : Int) > 0)
    · simp only [B.bo5, go_sem, Nat.reduceEqDiff, Int.reduceBEq, undef, undef, g9, List.length_map, g2, hwk]
      exact ⟨by omega, _, Sub.gc [0, 1] [204, 203, 199, 198, 3, 6, 7, 8, 9, 18, 24, 25, 28, 29, 30] rfl rfl, q, hq, by omega, St.gc_mk rfl (gc2 _ _ _) rfl rfl⟩
    · have hv0 : 0 < vs.length := by have := of_decide_eq_true g2; omega
      have hmS : m * b.speed.toNat ≤ 12 * 3 := Nat.mul_le_mul (by omega) (by omega)
      have o1 : IntKind.i64.wrap ((m : Int) * b.speed) = ((m * b.speed.toNat : Nat) : Int) := by
        rw [show (m : Int) * b.speed = ((m * b.speed.toNat : Nat) : Int) by rw [Int.natCast_mul, Int.toNat_of_nonneg (by omega)]]
        exact wrap_id (by omega) (by omega)
      have o2 : IntKind.i64.wrap (((m * b.speed.toNat : Nat) : Int) + (i : Int)) = ((m * b.speed.toNat + i : Nat) : Int) := by rw [wrap_id (by omega) (by omega)]; omega
      generalize m * b.speed.toNat = mS at *
      have o3 := mod_nat (mS + i) vs.length
      have o4 : ((vs.length : Int) = 0) = False := eq_false (by omega)
      have hlt : (mS + i) % vs.length < vs.length := Nat.mod_lt _ hv0
      have o5 : vs[(mS + i) % vs.length]? = some vs[(mS + i) % vs.length] := List.getElem?_eq_getElem hlt
      have hw8 := hv _ (List.getElem_mem hlt)
      generalize vs[(mS + i) % vs.length] = w8 at *
      generalize (mS + i) % vs.length = ix at *
      have o6 : IntKind.i64.wrap (w8 : Int) = w8 := wrap_id (by omega) (by omega)
      have o7 : (w8 : Int).tmod 4 = ((w8 % 4 : Nat) : Int) := mod_nat w8 4
      have hmv : w8 % 4 < 4 := Nat.mod_lt _ (by decide)
      have md1 : (q : Int).tmod b.wide = ((q % b.W : Nat) : Int) := by rw [hW.2.2]; exact mod_nat q b.W
      generalize w8 % 4 = mv at *
      cases h1 : ((mv : Int) == 1)
      rotate_left
      · have : mv = 1 := by have := eq_of_beq h1; omega
        subst this
        cases h1b : decide (((q % b.W : Nat) : Int) > 0)
        · simp only [B.bo5, go_sem, Nat.reduceEqDiff, Nat.reduceAdd, Int.reduceEq, Int.reduceBEq, undef, beq_self_eq_true, undef, List.length_map, List.getElem?_map, Option.map_some, g9, g2, o1, o2, o3, o4, o5, o6, o7, md1, nW, hwk, h1b]
          exact ⟨by omega, _, Sub.gc [0, 1] [204, 203, 199, 198, 3, 6, 7, 8, 9, 18, 24, 25, 28, 29, 30] rfl rfl, q, hq, by omega, St.gc_mk rfl (gc2 _ _ _) rfl rfl⟩
        · simp only [B.bo5, go_sem, Nat.reduceEqDiff, Nat.reduceAdd, Int.reduceEq, beq_self_eq_true, List.length_map, List.getElem?_map, Option.map_some, g9, g2, o1, o2, o3, o4, o5, o6, o7, md1, nW, hwk, h1b]
          have hpos : 0 < q % b.W := by have := of_decide_eq_true h1b; omega
          have hq1 : IntKind.i64.wrap ((q : Int) - 1) = ((q - 1 : Nat) : Int) := by have := Nat.mod_le q b.W; rw [wrap_id (by omega) (by omega)]; omega
          have hd := B.dist_left hpos hW.1
          have ht := B.dist_tri b p q (q - 1)
          rw [hq1]
          exact ⟨by omega, _, Sub.gc [0, 1] [204, 203, 199, 198, 3, 6, 7, 8, 9, 18, 24, 25, 28, 29, 30] rfl rfl, q - 1, by omega, by omega, St.gc_mk rfl (gc2 _ _ _) rfl rfl⟩
      cases h2 : ((mv : Int) == 2)
      rotate_left
      · have : mv = 2 := by have := eq_of_beq h2; omega
        subst this
        cases h2b : decide ((q : Int) ≥ b.wide)
        · simp only [B.bo5, go_sem, Nat.reduceEqDiff, Nat.reduceAdd, Int.reduceEq, Int.reduceBEq, undef, beq_self_eq_true, undef, List.length_map, List.getElem?_map, Option.map_some, g9, g2, o1, o2, o3, o4, o5, o6, o7, hwk, h2b]
          exact ⟨by omega, _, Sub.gc [0, 1] [204, 203, 199, 198, 3, 6, 7, 8, 9, 18, 24, 25, 28, 29, 30] rfl rfl, q, hq, by omega, St.gc_mk rfl (gc2 _ _ _) rfl rfl⟩
        · simp only [B.bo5, go_sem, Nat.reduceEqDiff, Nat.reduceAdd, Int.reduceEq, Int.reduceBEq, undef, beq_self_eq_true, undef, List.length_map, List.getElem?_map, Option.map_some, g9, g2, o1, o2, o3, o4, o5, o6, o7, hwk, h2b]
          have hge : b.W ≤ q := by have := of_decide_eq_true h2b; omega
          have hq1 : IntKind.i64.wrap ((q : Int) - b.wide) = ((q - b.W : Nat) : Int) := by rw [wrap_id (by omega) (by omega)]; omega
          have hd := B.dist_nearer hge hW.1
          have ht := B.dist_tri b p q (q - b.W)
          rw [hq1]
          exact ⟨by omega, _, Sub.gc [0, 1] [204, 203, 199, 198, 3, 6, 7, 8, 9, 18, 24, 25, 28, 29, 30] rfl rfl, q - b.W, by omega, by omega, St.gc_mk rfl (gc2 _ _ _) rfl rfl⟩
      cases h3 : ((mv : Int) == 3)
      · simp only [B.bo5, go_sem, Nat.reduceEqDiff, Nat.reduceAdd, Int.reduceEq, undef, undef, List.length_map, List.getElem?_map, Option.map_some, g9, g2, o1, o2, o3, o4, o5, o6, o7, hwk, h1, h2, h3]
        exact ⟨by omega, _, Sub.gc [0, 1] [204, 203, 199, 198, 3, 6, 7, 8, 9, 18, 24, 25, 28, 29, 30] rfl rfl, q, hq, by omega, St.gc_mk rfl (gc2 _ _ _) rfl rfl⟩
      · have : mv = 3 := by have := eq_of_beq h3; omega
        subst this
        have hq2 : IntKind.i64.wrap ((q : Int) + b.wide) = ((q + b.W : Nat) : Int) := by rw [wrap_id (by omega) (by omega)]; omega
        cases h3b : decide (((q + b.W : Nat) : Int) < (b.N : Int))
        · simp only [B.bo5, go_sem, Nat.reduceEqDiff, Nat.reduceAdd, Int.reduceEq, Int.reduceBEq, undef, beq_self_eq_true, undef, List.length_map, List.getElem?_map, Option.map_some, g9, g2, o1, o2, o3, o4, o5, o6, o7, hwk, hq2, hWD, h3b]
          exact ⟨by omega, _, Sub.gc [0, 1] [204, 203, 199, 198, 3, 6, 7, 8, 9, 18, 24, 25, 28, 29, 30] rfl rfl, q, hq, by omega, St.gc_mk rfl (gc2 _ _ _) rfl rfl⟩
        · simp only [B.bo5, go_sem, Nat.reduceEqDiff, Nat.reduceAdd, Int.reduceEq, Int.reduceBEq, undef, beq_self_eq_true, undef, List.length_map, List.getElem?_map, Option.map_some, g9, g2, o1, o2, o3, o4, o5, o6, o7, hwk, hq2, hWD, h3b]
          have hlt : q + b.W < b.N := by have := of_decide_eq_true h3b; omega
          have hd := B.dist_farther (b := b) (p := q) hW.1
          have ht := B.dist_tri b p q (q + b.W)
          exact ⟨by omega, _, Sub.gc [0, 1] [204, 203, 199, 198, 3, 6, 7, 8, 9, 18, 24, 25, 28, 29, 30] rfl rfl, q + b.W, hlt, by omega, St.gc_mk rfl (gc2 _ _ _) rfl rfl⟩
  exact ht ⟨hs, hf, hb, hne⟩
end Go.Proofs.YtbhbbjngndmnmaaGreatDoor
