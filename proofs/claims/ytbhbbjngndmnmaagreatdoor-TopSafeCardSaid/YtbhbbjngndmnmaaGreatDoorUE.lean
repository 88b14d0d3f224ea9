/- Proved here: laws that the statements need (ThA, ThB, ThD, ThE, ThF, ThG, ThH, ThI, ThJ). No conditions but those that each law states. -/
import Derived.Test.YtbhbbjngndmnmaaGreatDoorUD
import Derived.Test.YtbhbbjngndmnmaaGreatDoorUA
import Derived.Test.YtbhbbjngndmnmaaGreatDoorUB
set_option linter.unusedSimpArgs false
set_option linter.unusedVariables false
namespace Go.Proofs.YtbhbbjngndmnmaaGreatDoor.H
open Go Go.Ab Go.Proofs.YtbhbbjngndmnmaaGreatDoor.B
theorem hwithin_ok (n lo hi : Int) : ACall Tryz.prog 102 [.t (vi n), .t (vi lo), .t (vi hi)] [] (ret (vb (decide (lo ≤ n) && decide (n ≤ hi)))) := by
  refine ACall.walk k102 ?_
  unfold c102
  simp only [go_sem, Nat.reduceEqDiff, Nat.reduceAdd]
  cases hA : decide (lo ≤ n)
  · simp only [go_sem, Nat.reduceEqDiff, undef, undef]
    exact finL_ret [] ⟨rfl, rfl, rfl, rfl, _, rfl, res_mk rfl⟩
  · simp only [go_sem, Nat.reduceEqDiff, beq_self_eq_true]
    exact finL_ret [] ⟨rfl, rfl, rfl, rfl, _, rfl, res_mk rfl⟩
theorem hask_ok (e : Int) : ACall Tryz.prog 101 [.t (vb true), .t (vi e)] [] (res (.ret (.tup []))) := by
  refine ACall.walk k101 ?_
  unfold c101
  simp only [go_sem, Nat.reduceEqDiff, Bool.not_true]
  exact finL_ret [] ⟨rfl, rfl, rfl, rfl, _, rfl, res_mk (by simp [E.gc])⟩
theorem hanswer_none {σ : List AO} {a : E} : ADef Tryz.prog 75 [a] σ none fun σ' => σ' = σ := by
  refine ADef.walk a75 ?_
  unfold c75
  simp only [pxT, go_sem, Nat.reduceEqDiff, Bool.not_true]
theorem bit16 : ∀ n : Nat, n < 16 → ∀ k : Nat, k < 7 → (bits .and .u64 ((n : Int).fdiv (2 ^ min k 64)) 1 == 1) = n.testBit k := by
  intro n hn k hk
  have h : ((List.range 16).all fun n => (List.range 7).all fun k => (bits .and .u64 ((n : Int).fdiv (2 ^ min k 64)) 1 == 1) == n.testBit k) = true := by decide +kernel
  exact eq_of_beq (List.all_eq_true.1 (List.all_eq_true.1 h n (List.mem_range.2 hn)) k (List.mem_range.2 hk))
theorem hhas_ok (n k : Nat) (hn : n < 16) (hk : k < 7) : ACall Tryz.prog 105 [.t (vu n), .t (vi k)] [] (ret (vb (n.testBit k))) := by
  refine ACall.walk k105 ?_
  unfold c105
  have hk0 : ((k : Int) < 0) = False := eq_false (by omega)
  have b := bit16 n hn k hk
  simp only [go_sem, Nat.reduceEqDiff, hk0]
  have e : ((k : Int)).toNat = k := Int.toNat_natCast k
  simp only [go_sem, b]
  exact finL_ret [] ⟨rfl, rfl, rfl, rfl, _, rfl, res_mk rfl⟩
theorem hunion_ok (l : List Nat) (h : ∀ x ∈ l, x < 4611686018427387904) (hl : l.length < 100) : ACall Tryz.prog 104 [.t (.slice 1 (l.map fun z : Nat => vu z))] [] (ret (vu (orL l : Nat))) := by
  refine ACall.walk k104 ?_
  unfold c104
  simp only [go_sem, Nat.reduceEqDiff, List.length_map]
  refine awpL_for (i := 7) (L := 6) l.length (fun j s => s = { env := [(7, .t (vi j)), (6, .t (vi l.length)), (5, .t (.slice 1 (l.map fun z : Nat => vu z))), (2, .t (vu (orL (l.take j) : Nat)))], σ := [] }) ?_ ⟨_, Sub.gc [] [7, 6, 5, 2] rfl rfl, rfl⟩ ?_ ?_
  · rintro k s rfl; exact ⟨rfl, rfl⟩
  · rintro j s hj rfl
    have hwj : IntKind.i64.wrap ((j : Int) + 1) = ((j + 1 : Nat) : Int) := by rw [wrap_id (by omega) (by omega)]; omega
    have hx : l[j]? = some l[j] := List.getElem?_eq_getElem hj
    have h1 := h _ (List.getElem_mem hj)
    have h2 : orL (l.take j) < 2 ^ 62 := orL_lt fun x hx => h x (List.mem_of_mem_take hx)
    have ht : orL (l.take (j + 1)) = orL (l.take j) ||| l[j] := by rw [List.take_succ_eq_append_getElem hj, orL_snoc]
    have o1 := ubits_or (a := orL (l.take j)) (b := l[j]) (by omega) (by omega)
    rw [← ht] at o1
    generalize l[j] = x at *
    have hjj : (j : Int) < l.length := by omega
    simp only [go_sem, Nat.reduceEqDiff, List.getElem?_map, hx, Option.map_some, hwj, o1]
    exact ⟨_, Sub.gc [] [7, 6, 5, 2] rfl rfl, rfl⟩
  · rintro s rfl
    simp only [go_sem, Nat.reduceEqDiff, List.take_length]
    exact finL_ret [] ⟨rfl, rfl, rfl, rfl, _, rfl, res_mk rfl⟩
theorem htruth_ok : ACall Tryz.prog 79 [.t (vb true)] [] (ret (.iface 233 (.agg []))) := by
  refine ACall.walk k79 ?_
  unfold c79
  simp only [go_sem, Nat.reduceEqDiff]
  exact finL_ret [] ⟨rfl, rfl, rfl, rfl, _, rfl, res_mk rfl⟩
structure Mv where
  at_ : Int
  place : Int
  lo : Int
  hi : Int
def tMv (m : Mv) : T := .agg [vi m.at_, vi m.place, vi m.lo, vi m.hi]
def mvs : List Mv := [⟨0, 0, 4, 6⟩, ⟨8, 3, 4, 4⟩, ⟨10, 0, 5, 6⟩, ⟨16, 6, 3, 3⟩]
def tHo : T := .agg [vi 1, .slice 4 (mvs.map tMv)]
theorem hslow_ok (m : Mv) : ACall Tryz.prog 143 [.t (.agg []), .t (tMv m)] [] (ret (vi m.hi)) := by
  refine ACall.walk k143 ?_
  unfold c143 tMv
  simp only [go_sem, Nat.reduceEqDiff, Nat.reduceAdd]
  exact finL_ret [] ⟨rfl, rfl, rfl, rfl, _, rfl, res_mk rfl⟩
open Go Go.Ab Go.Proofs.YtbhbbjngndmnmaaGreatDoor.B
def theI (a : Int) (m o : Mv) : Int := a + m.hi + 1 * max (m.place - o.place) (o.place - m.place)
def Small (m : Mv) : Prop := 0 ≤ m.at_ ∧ m.at_ ≤ 200 ∧ 0 ≤ m.place ∧ m.place ≤ 30 ∧ 0 ≤ m.hi ∧ m.hi ≤ 20
theorem mvs_small : ∀ m ∈ mvs, Small m := by
  intro m hm
  simp only [mvs, List.mem_cons, List.not_mem_nil, or_false] at hm
  rcases hm with rfl | rfl | rfl | rfl <;> (unfold Small; simp)
set_option maxRecDepth 8000 in
theorem hthere_ok {i k : Nat} {m o : Mv} (hi : mvs[i]? = some m) (hk : mvs[k]? = some o) (a : Int) (ha : 0 ≤ a ∧ a ≤ 200) : ACall Tryz.prog 103 [.t tHo, .t (vi a), .t (vi i), .t (vi k), .t (.iface 233 (.agg []))] [] (ret (vi (theI a m o))) := by
  refine ACall.walk k103 ?_
  have sm := mvs_small m (List.mem_of_getElem? hi)
  have so := mvs_small o (List.mem_of_getElem? hk)
  have hi4 : i < 4 := (List.getElem?_eq_some_iff.1 hi).1
  have hk4 : k < 4 := (List.getElem?_eq_some_iff.1 hk).1
  have i0 : ((i : Int) < 0) = False := eq_false (by omega)
  have k0 : ((k : Int) < 0) = False := eq_false (by omega)
  have i4 : ((i : Int) < (mvs.length : Int)) = True := eq_true (by have : mvs.length = 4 := rfl; omega)
  have k4 : ((k : Int) < (mvs.length : Int)) = True := eq_true (by have : mvs.length = 4 := rfl; omega)
  have q := hslow_ok m
  unfold Small at sm so
  obtain ⟨ma, mp, ml, mh⟩ := m
  obtain ⟨oa, op, ol, oh⟩ := o
  simp only at sm so
  have w1 : IntKind.i64.wrap (a + mh) = a + mh := wrap_id (by omega) (by omega)
  have w2 : IntKind.i64.wrap (mp - op) = mp - op := wrap_id (by omega) (by omega)
  have w3 : IntKind.i64.wrap (op - mp) = op - mp := wrap_id (by omega) (by omega)
  have w4 : IntKind.i64.wrap (1 * max (mp - op) (op - mp)) = 1 * max (mp - op) (op - mp) := wrap_id (by omega) (by omega)
  have w5 : IntKind.i64.wrap (a + mh + 1 * max (mp - op) (op - mp)) = a + mh + 1 * max (mp - op) (op - mp) := wrap_id (by omega) (by omega)
  have hm : tMv ⟨ma, mp, ml, mh⟩ = .agg [vi ma, vi mp, vi ml, vi mh] := rfl
  have ho : tMv ⟨oa, op, ol, oh⟩ = .agg [vi oa, vi op, vi ol, vi oh] := rfl
  unfold c103 tHo theI
  rw [hm] at q
  generalize mvs = L at *
  simp only [go_sem, Nat.reduceEqDiff, Nat.reduceAdd, List.getElem?_map, hi, hk, Option.map_some, hm, ho]
  repeat' (first | refine AndL.mk ?_ ?_ | simp only [go_sem, Nat.reduceEqDiff, Nat.reduceAdd, Nat.reduceLeDiff, undef, List.getElem?_map, hi, hk, Option.map_some, hm, ho, mfind])
  all_goals
    refine ACallL.quiet1 q rfl rfl rfl ?_
    simp only [go_sem, Nat.reduceEqDiff, Nat.reduceAdd, Nat.reduceLeDiff, w1, w2, w3, w4, w5]
    exact finL_ret [] ⟨rfl, rfl, rfl, rfl, _, rfl, res_mk rfl⟩
open Go Go.Ab Go.Proofs.YtbhbbjngndmnmaaGreatDoor.B
def canF (i k : Nat) : Bool := match mvs[i]?, mvs[k]? with
  | some m, some o => decide (theI m.at_ m o ≤ o.at_)
  | _, _ => false
def stepC (c : List Nat) (i k : Nat) : List Nat := if canF i k then c.set i (orL [c.getD i 0, 2 ^ k]) else c
def chI (i : Nat) (c : List Nat) : Nat → List Nat
  | 0 => c
  | k + 1 => stepC (chI i c k) i k
def chR : Nat → List Nat
  | 0 => [0, 0, 0, 0, 0, 0, 0]
  | i + 1 => chI i (chR i) 4
def ch4 : List Nat := [12, 8, 0, 0, 0, 0, 0]
theorem chR4 : chR 4 = ch4 := by decide +kernel
theorem ch_fine : ∀ i, i < 4 → ∀ k, k ≤ 4 → (chI i (chR i) k).length = 7 ∧ ∀ x ∈ chI i (chR i) k, x < 16 := by
  have h : ((List.range 4).all fun i => (List.range 5).all fun k => decide ((chI i (chR i) k).length = 7) && (chI i (chR i) k).all fun x => decide (x < 16)) = true := by decide +kernel
  intro i hi k hk
  have := List.all_eq_true.1 (List.all_eq_true.1 h i (List.mem_range.2 hi)) k (List.mem_range.2 (by omega))
  rw [Bool.and_eq_true, decide_eq_true_eq, List.all_eq_true] at this
  exact ⟨this.1, fun x hx => of_decide_eq_true (this.2 x hx)⟩
theorem shl7 : ∀ k : Nat, k < 7 → IntKind.u64.wrap (1 * 2 ^ min k 64) = ((2 ^ k : Nat) : Int) := by decide
def rC (c : List Nat) : AO := .cells ((c.map fun z : Nat => vu z).map .t)
set_option maxRecDepth 8000 in
set_option maxHeartbeats 8000000 in
theorem hchart_ok : ACall Tryz.prog 78 [.t tHo, .t (.iface 233 (.agg []))] [] (ret (.agg (ch4.map fun z : Nat => vu z))) := by
  refine ACall.walk k78 ?_
  have hml : mvs.length = 4 := rfl
  have hth := fun (i k : Nat) (m o : Mv) (hi : mvs[i]? = some m) (hk : mvs[k]? = some o) (a : Int) (ha : 0 ≤ a ∧ a ≤ 200) => hthere_ok hi hk a ha
  unfold c78
  unfold tHo at hth ⊢
  simp only [go_sem, Nat.reduceEqDiff, Nat.reduceAdd, List.length_map]
  refine awpL_for (i := 13) (L := 12) mvs.length (fun i st => st = { env := [(13, .t (vi i)), (12, .t (vi mvs.length)), (1, .t (.iface 233 (.agg []))), (2, .ptr 0 0), (4, .ptr 1 0), (11, .t (.slice 4 (mvs.map tMv)))], σ := [.cells [.t (vi 1), .t (.slice 4 (mvs.map tMv))], rC (chR i)] }) ?_ ⟨_, Sub.gc [0, 1] [13, 12, 1, 2, 4, 11] rfl rfl, rfl⟩ ?_ ?_
  · rintro k st rfl; exact ⟨rfl, rfl⟩
  · rintro i st hi rfl
    have hwi : IntKind.i64.wrap ((i : Int) + 1) = ((i + 1 : Nat) : Int) := by rw [wrap_id (by omega) (by omega)]; omega
    have hx : mvs[i]? = some mvs[i] := List.getElem?_eq_getElem hi
    have sm := mvs_small _ (List.getElem_mem hi)
    have hthi := fun k o hk => hth i k _ o hx hk mvs[i].at_ (by unfold Small at sm; omega)
    have hcF : ∀ k o, mvs[k]? = some o → canF i k = decide (theI mvs[i].at_ mvs[i] o ≤ o.at_) := fun k o hk => by unfold canF; rw [hx, hk]
    have hch := ch_fine i (by omega)
    have hcs : chR (i + 1) = chI i (chR i) 4 := rfl
    rw [hcs]
    generalize hci : chR i = c0 at *
    generalize mvs[i] = m at *
    have hm : tMv m = .agg [vi m.at_, vi m.place, vi m.lo, vi m.hi] := rfl
    unfold rC
    simp only [go_sem, Nat.reduceEqDiff, Nat.reduceAdd, undef, List.length_map, List.getElem?_map, hx, Option.map_some, hm]
    refine awpL_for (i := 22) (L := 21) mvs.length (fun k st => st = { env := [(22, .t (vi k)), (21, .t (vi mvs.length)), (20, .t (.slice 4 (mvs.map tMv))), (13, .t (vi i)), (12, .t (vi mvs.length)), (1, .t (.iface 233 (.agg []))), (2, .ptr 0 0), (4, .ptr 1 0), (11, .t (.slice 4 (mvs.map tMv))), (5, .t (vi i)), (6, .ptr 2 0)], σ := [.cells [.t (vi 1), .t (.slice 4 (mvs.map tMv))], rC (chI i c0 k), .cells [.t (vi m.at_), .t (vi m.place), .t (vi m.lo), .t (vi m.hi)]] }) ?_ ⟨_, Sub.gc [0, 1, 2] [22, 21, 20, 13, 12, 1, 2, 4, 11, 5, 6] rfl rfl, St.gc_mk rfl (by unfold σgc; simp only [List.map_cons, List.map_nil, List.getD_cons_zero, List.getD_cons_succ, AO.gc, gc_row]; rfl) rfl rfl⟩ ?_ ?_
    · rintro k st rfl; exact ⟨rfl, rfl⟩
    · rintro k st hk rfl
      have hwk : IntKind.i64.wrap ((k : Int) + 1) = ((k + 1 : Nat) : Int) := by rw [wrap_id (by omega) (by omega)]; omega
      have hy : mvs[k]? = some mvs[k] := List.getElem?_eq_getElem hk
      have q := hthi k _ hy
      have hF := hcF k _ hy
      obtain ⟨hl7, hl16⟩ := hch k (by omega)
      have hst : chI i c0 (k + 1) = if canF i k then (chI i c0 k).set i (orL [(chI i c0 k).getD i 0, 2 ^ k]) else chI i c0 k := rfl
      rw [hst]
      generalize chI i c0 k = c at *
      generalize mvs[k] = o at *
      have ho : tMv o = .agg [vi o.at_, vi o.place, vi o.lo, vi o.hi] := rfl
      generalize canF i k = b at *
      have k0 : ((k : Int) < 0) = False := eq_false (by omega)
      have i0 : ((i : Int) < 0) = False := eq_false (by omega)
      have i7 : ((i : Int) < 7) = True := eq_true (by omega)
      have hc : c[i]? = some c[i] := List.getElem?_eq_getElem (by omega)
      have hcd : c.getD i 0 = c[i] := by rw [List.getD_eq_getElem?_getD, hc]; rfl
      have hc16 := hl16 _ (List.getElem_mem (show i < c.length by omega))
      rw [hcd]
      generalize c[i] = w at *
      have hp : 2 ^ k ≤ 2 ^ 3 := Nat.pow_le_pow_right (by omega) (by omega)
      have qu := hunion_ok [w, 2 ^ k] (by simp; omega) (by simp)
      cases b
      · have g : decide (theI m.at_ m o ≤ o.at_) = false := hF.symm
        have e0 : (if (false = true) then c.set i (orL [w, 2 ^ k]) else c) = c := by simp
        rw [e0]
        unfold rC
        simp only [go_sem, Nat.reduceEqDiff, Nat.reduceAdd, Nat.reduceLeDiff, undef, List.getElem?_map, hy, Option.map_some, ho]
        refine ACallL.quiet1 q rfl rfl rfl ?_
        simp only [go_sem, Nat.reduceEqDiff, Nat.reduceAdd, Nat.reduceLeDiff, g, hwk]
        exact ⟨_, Sub.gc [0, 1, 2] [22, 21, 20, 13, 12, 1, 2, 4, 11, 5, 6] rfl rfl, St.gc_mk rfl (by unfold σgc; simp only [List.map_cons, List.map_nil, List.getD_cons_zero, List.getD_cons_succ, AO.gc, gc_row]; rfl) rfl rfl⟩
      · have g : decide (theI m.at_ m o ≤ o.at_) = true := hF.symm
        have e0 : (if (true = true) then c.set i (orL [w, 2 ^ k]) else c) = c.set i (orL [w, 2 ^ k]) := by simp
        rw [e0]
        unfold rC
        simp only [go_sem, Nat.reduceEqDiff, Nat.reduceAdd, Nat.reduceLeDiff, undef, List.getElem?_map, hy, Option.map_some, ho]
        refine ACallL.quiet1 q rfl rfl rfl ?_
        have hsh := shl7 k (by omega)
        have hset : List.take i (List.map E.t (List.map (fun z : Nat => vu z) c)) ++ [E.t (vu (orL [w, 2 ^ k] : Nat))] ++ List.drop (i + 1) (List.map E.t (List.map (fun z : Nat => vu z) c)) = List.map E.t (List.map (fun z : Nat => vu z) (c.set i (orL [w, 2 ^ k]))) := by
          rw [List.map_set, List.map_set, List.set_eq_take_append_cons_drop, if_pos (by simp; omega)]
          simp
        have i6 : (i ≤ 6) = True := eq_true (by omega)
        generalize orL [w, 2 ^ k] = r at *
        simp only [go_sem, Nat.reduceEqDiff, Nat.reduceAdd, Nat.reduceLT, Nat.reduceLeDiff, g, k0, i7, List.length_map, List.getElem?_map, hc, Option.map_some, Nat.mul_one, hsh]
        refine ACallL.quiet1 qu rfl rfl rfl ?_
        simp only [go_sem, Nat.reduceEqDiff, Nat.reduceLeDiff, undef, hwk, i7, List.length_map, List.getElem?_map, hc, Option.map_some, Nat.mul_one, hset, hl7, i6]
        exact ⟨_, Sub.gc [0, 1, 2] [22, 21, 20, 13, 12, 1, 2, 4, 11, 5, 6] rfl rfl, St.gc_mk rfl (by unfold σgc; simp only [List.map_cons, List.map_nil, List.getD_cons_zero, List.getD_cons_succ, AO.gc, gc_row]; rfl) rfl rfl⟩
    · rintro st rfl
      rw [hml]
      generalize chI i c0 4 = c at *
      unfold rC
      simp only [go_sem, Nat.reduceEqDiff, hwi]
      exact ⟨_, Sub.gc [0, 1] [13, 12, 1, 2, 4, 11] rfl rfl, St.gc_mk rfl (by unfold σgc; simp only [List.map_cons, List.map_nil, List.getD_cons_zero, List.getD_cons_succ, AO.gc, gc_row]; rfl) rfl rfl⟩
  · rintro st rfl
    rw [hml, chR4]
    unfold rC ch4
    simp only [go_sem, Nat.reduceEqDiff, Nat.reduceAdd, undef, List.map_cons, List.map_nil]
    exact finL_ret [] ⟨rfl, rfl, rfl, rfl, _, rfl, res_mk rfl⟩
open Go Go.Ab Go.Proofs.YtbhbbjngndmnmaaGreatDoor.B
theorem hsize_ok (n : Nat) (hn : n < 256) : ACall Tryz.prog 107 [.t (vu n)] [] (ret (vi (size n))) := by
  refine ACall.walk k107 ?_
  have q := S.ones_ok n hn
  unfold c107
  simp only [go_sem, Nat.reduceEqDiff]
  refine ACallL.quiet1 q rfl rfl rfl ?_
  simp only [go_sem, Nat.reduceEqDiff]
  exact finL_ret [] ⟨rfl, rfl, rfl, rfl, _, rfl, res_mk rfl⟩
theorem hevery_ok : ACall Tryz.prog 81 [.t tHo] [] (ret (vu (15 : Nat))) := by
  refine ACall.walk k81 ?_
  have hml : mvs.length = 4 := rfl
  have h4 : ((4 : Nat) : Int) = 4 := rfl
  have w1 : IntKind.u64.wrap (IntKind.u64.wrap (1 * 2 ^ min 4 64) - 1) = 15 := by decide
  unfold c81 tHo
  simp only [go_sem, Nat.reduceEqDiff, Nat.reduceAdd, Int.reduceToNat, Int.reduceLT, List.length_map, hml]
  exact finL_ret [] ⟨rfl, rfl, rfl, rfl, _, rfl, res_mk rfl⟩
def chA : T := .agg (ch4.map fun z : Nat => vu z)
def apF (i k : Nat) : Bool := !(ch4.getD i 0).testBit k && !(ch4.getD k 0).testBit i
theorem ch4_lt {i : Nat} {x : Nat} (h : ch4[i]? = some x) : x < 16 := by
  have : ∀ x ∈ ch4, x < 16 := by decide
  exact this x (List.mem_of_getElem? h)
set_option maxRecDepth 8000 in
theorem hapart_ok (i k : Nat) (hi : i < 7) (hk : k < 7) : ACall Tryz.prog 83 [.t chA, .t (vi i), .t (vi k)] [] (ret (vb (apF i k))) := by
  refine ACall.walk k83 ?_
  have hl : ch4.length = 7 := rfl
  have k0 : ((k : Int) < 0) = False := eq_false (by omega)
  have i0 : ((i : Int) < 0) = False := eq_false (by omega)
  have i7 : ((i : Int) < 7) = True := eq_true (by omega)
  have k7 : ((k : Int) < 7) = True := eq_true (by omega)
  have hx : ch4[i]? = some ch4[i] := List.getElem?_eq_getElem (by omega)
  have hy : ch4[k]? = some ch4[k] := List.getElem?_eq_getElem (by omega)
  have q1 := hhas_ok ch4[i] k (ch4_lt hx) hk
  have q2 := hhas_ok ch4[k] i (ch4_lt hy) hi
  have e : apF i k = (!(ch4[i]).testBit k && !(ch4[k]).testBit i) := by
    unfold apF
    rw [List.getD_eq_getElem?_getD, List.getD_eq_getElem?_getD, hx, hy]; rfl
  rw [e]
  generalize ch4[i] = x at *
  generalize ch4[k] = y at *
  unfold c83 chA
  generalize ch4 = C at *
  simp only [go_sem, Nat.reduceEqDiff, Nat.reduceAdd, Nat.reduceLeDiff, List.length_map, hl, i7, Nat.mul_one, List.getElem?_map, hx, Option.map_some]
  refine ACallL.quiet1 q1 rfl rfl rfl ?_
  cases x.testBit k
  · simp only [go_sem, Nat.reduceEqDiff, Nat.reduceLeDiff, Bool.not_false, beq_self_eq_true, List.length_map, hl, k7, Nat.mul_one, List.getElem?_map, hy, Option.map_some]
    refine ACallL.quiet1 q2 rfl rfl rfl ?_
    simp only [go_sem, Nat.reduceEqDiff, beq_self_eq_true]
    exact finL_ret [] ⟨rfl, rfl, rfl, rfl, _, rfl, res_mk rfl⟩
  · simp only [go_sem, Nat.reduceEqDiff, Bool.not_true, undef]
    exact finL_ret [] ⟨rfl, rfl, rfl, rfl, _, rfl, res_mk rfl⟩
open Go Go.Ab Go.Proofs.YtbhbbjngndmnmaaGreatDoor.B
abbrev shM : Sh := (none, some IntKind.i64)
def clM : E := .fn (.func 106) [] [.ptr 1 0, .ptr 0 0, .ptr 4 0, .ptr 2 0, .ptr 5 0]
def stM (ks : List (Nat × List Int)) (xs : List T) (clk : Nat) (seen : Nat) : List AO := [rC ch4, .cells [.t (vu (15 : Nat))], .cells [.map 3], .map shM ks xs clk, .cells [.t (vu seen)], .cells [clM]]
def agM (i : Nat) : List E := [.t (vi i), .ptr 1 0, .ptr 0 0, .ptr 4 0, .ptr 2 0, .ptr 5 0]
theorem fif (k : Nat) : k < 7 → (15 : Nat).testBit k = decide (k < 4) := by
  revert k
  decide
theorem gkM (C : List Nat) (ks : List (Nat × List Int)) (xs : List T) (clk : Nat) (a b : Nat) : σgc [0, 1, 2, 3, 4, 5] [.cells ((C.map fun z : Nat => vu z).map .t), .cells [.t (vu a)], .cells [.map 3], .map shM ks xs clk, .cells [.t (vu b)], .cells [clM]] 12 = [.cells ((C.map fun z : Nat => vu z).map .t), .cells [.t (vu a)], .cells [.map 3], .map shM ks xs clk, .cells [.t (vu b)], .cells [clM]] := by
  unfold σgc
  simp only [List.map_cons, List.map_nil, List.getD_cons_zero, List.getD_cons_succ, AO.gc, gc_row]
  rfl
set_option maxRecDepth 8000 in
set_option maxHeartbeats 8000000 in
theorem hmatch_no (i : Nat) (hi : i < 4) (hx : ch4[i]? = some 0) (ks : List (Nat × List Int)) (xs : List T) (clk : Nat) : ACall Tryz.prog 106 (agM i) (stM ks xs clk 0) (fun o σ' => o = .ret (.t (vb false)) ∧ σ' = stM ks xs clk 0) := by
  refine ACall.walk k106 ?_
  have hl : ch4.length = 7 := rfl
  have i0 : ((i : Int) < 0) = False := eq_false (by omega)
  have i7 : ((i : Int) < 7) = True := eq_true (by omega)
  have q15 := fun k hk => hhas_ok 15 k (by decide) hk
  have q0 := fun k hk => hhas_ok 0 k (by decide) hk
  unfold c106 agM stM rC
  generalize ch4 = C at *
  simp only [go_sem, Nat.reduceAdd]
  refine awpL_loopK 7 (fun k st => st = { env := [(11, .t (vi k)), (0, .t (vi i)), (1, .ptr 1 0), (2, .ptr 0 0), (3, .ptr 4 0), (4, .ptr 2 0), (5, .ptr 5 0)], σ := [.cells ((C.map fun z : Nat => vu z).map .t), .cells [.t (vu (15 : Nat))], .cells [.map 3], .map shM ks xs clk, .cells [.t (vu (0 : Nat))], .cells [clM]] })
    ⟨_, Sub.gc [0, 1, 2, 3, 4, 5] [11, 0, 1, 2, 3, 4, 5] rfl rfl, St.gc_mk rfl (gkM C ks xs clk 15 0) rfl rfl⟩ ?_
  rintro k st hk rfl
  have hwk : IntKind.i64.wrap ((k : Int) + 1) = ((k + 1 : Nat) : Int) := by rw [wrap_id (by omega) (by omega)]; omega
  cases g : decide ((k : Int) < 7)
  · simp only [go_sem, Nat.reduceEqDiff, Nat.reduceAdd, g]
    exact finL_ret [0, 1, 2, 3, 4, 5] ⟨rfl, rfl, rfl, rfl, _, rfl, rfl, gkM C ks xs clk 15 0⟩
  have hk7 : k < 7 := by have := of_decide_eq_true g; omega
  have q1 := q15 k hk7
  have q2 := q0 k hk7
  rw [fif k hk7] at q1
  rw [Nat.zero_testBit] at q2
  simp only [go_sem, Nat.reduceEqDiff, g]
  refine ACallL.quiet1 q1 rfl rfl rfl ?_
  cases decide (k < 4)
  · simp only [go_sem, Nat.reduceEqDiff, Nat.reduceAdd, Bool.not_true, Bool.not_false, undef, hwk]
    exact ⟨hk7, _, Sub.gc [0, 1, 2, 3, 4, 5] [11, 0, 1, 2, 3, 4, 5] rfl rfl, St.gc_mk rfl (gkM C ks xs clk 15 0) rfl rfl⟩
  · simp only [go_sem, Nat.reduceEqDiff, Nat.reduceLeDiff, Bool.not_true, beq_self_eq_true, i7, hl, Nat.mul_one, List.length_map, List.getElem?_map, hx, Option.map_some]
    refine ACallL.quiet1 q2 rfl rfl rfl ?_
    simp only [go_sem, Nat.reduceEqDiff, Nat.reduceAdd, Bool.not_true, Bool.not_false, undef, beq_self_eq_true, hwk]
    exact ⟨hk7, _, Sub.gc [0, 1, 2, 3, 4, 5] [11, 0, 1, 2, 3, 4, 5] rfl rfl, St.gc_mk rfl (gkM C ks xs clk 15 0) rfl rfl⟩
set_option maxRecDepth 8000 in
set_option maxHeartbeats 8000000 in
theorem hmatch_yes (i k0 w : Nat) (hi : i < 4) (hk0 : k0 < 4) (hx : ch4[i]? = some w) (hz : ∀ k, k < k0 → w.testBit k = false) (ht : w.testBit k0 = true) (ks : List (Nat × List Int)) (xs : List T) (clk : Nat) (hf : kfind shM ks [(k0 : Int)] = none) : ACall Tryz.prog 106 (agM i) (stM ks xs clk 0) (fun o σ' => o = .ret (.t (vb true)) ∧ σ' = stM (ks ++ [(clk, [(k0 : Int)])]) (xs ++ [vi i]) (clk + 1) (2 ^ k0)) := by
  refine ACall.walk k106 ?_
  have hl : ch4.length = 7 := rfl
  have i0 : ((i : Int) < 0) = False := eq_false (by omega)
  have i7 : ((i : Int) < 7) = True := eq_true (by omega)
  have q15 := fun k hk => hhas_ok 15 k (by decide) hk
  have qw := fun k hk => hhas_ok w k (ch4_lt hx) hk
  have qn := fun k hk => hhas_ok 0 k (by decide) hk
  unfold c106 agM stM rC
  generalize ch4 = C at *
  simp only [go_sem, Nat.reduceAdd]
  refine awpL_loopK k0 (fun k st => st = { env := [(11, .t (vi k)), (0, .t (vi i)), (1, .ptr 1 0), (2, .ptr 0 0), (3, .ptr 4 0), (4, .ptr 2 0), (5, .ptr 5 0)], σ := [.cells ((C.map fun z : Nat => vu z).map .t), .cells [.t (vu (15 : Nat))], .cells [.map 3], .map shM ks xs clk, .cells [.t (vu (0 : Nat))], .cells [clM]] })
    ⟨_, Sub.gc [0, 1, 2, 3, 4, 5] [11, 0, 1, 2, 3, 4, 5] rfl rfl, St.gc_mk rfl (gkM C ks xs clk 15 0) rfl rfl⟩ ?_
  rintro k st hk rfl
  have hwk : IntKind.i64.wrap ((k : Int) + 1) = ((k + 1 : Nat) : Int) := by rw [wrap_id (by omega) (by omega)]; omega
  have g : decide ((k : Int) < 7) = true := decide_eq_true (by omega)
  have q1 := q15 k (by omega)
  have q2 := qw k (by omega)
  rw [fif k (by omega), decide_eq_true (by omega)] at q1
  simp only [go_sem, Nat.reduceEqDiff, g]
  refine ACallL.quiet1 q1 rfl rfl rfl ?_
  simp only [go_sem, Nat.reduceEqDiff, Nat.reduceLeDiff, Bool.not_true, beq_self_eq_true, i7, hl, Nat.mul_one, List.length_map, List.getElem?_map, hx, Option.map_some]
  refine ACallL.quiet1 q2 rfl rfl rfl ?_
  by_cases c : k < k0
  · rw [hz k c]
    simp only [go_sem, Nat.reduceEqDiff, Nat.reduceAdd, Bool.not_true, Bool.not_false, undef, beq_self_eq_true, hwk]
    exact ⟨c, _, Sub.gc [0, 1, 2, 3, 4, 5] [11, 0, 1, 2, 3, 4, 5] rfl rfl, St.gc_mk rfl (gkM C ks xs clk 15 0) rfl rfl⟩
  · have e : k = k0 := by omega
    subst e
    rw [ht]
    have q3 := qn k (by omega)
    rw [Nat.zero_testBit] at q3
    have kk : ((k : Int) < 0) = False := eq_false (by omega)
    have hsh := shl7 k (by omega)
    have hp : 2 ^ k ≤ 2 ^ 3 := Nat.pow_le_pow_right (by omega) (by omega)
    have qu := hunion_ok [0, 2 ^ k] (by simp; omega) (by simp)
    have eu : orL [0, 2 ^ k] = 2 ^ k := by unfold orL; simp
    rw [eu] at qu
    have hk1 : toKey shM (.t (vi k)) = some [(k : Int)] := rfl
    have hz2 : zeroT (.int .i64 0) = .lit (.int .i64 0) := rfl
    simp only [go_sem, Nat.reduceEqDiff, Bool.not_true, beq_self_eq_true]
    refine ACallL.quiet1 q3 rfl rfl rfl ?_
    simp only [go_sem, Nat.reduceEqDiff, Nat.reduceAdd, Nat.reduceLT, kk, hsh]
    refine ACallL.quiet1 qu rfl rfl rfl ?_
    simp only [go_sem, Nat.reduceEqDiff, Nat.reduceAdd, Bool.not_true, Bool.not_false, undef, hk1, hf, mapOf?, hz2]
    refine finL_ret [0, 1, 2, 3, 4, 5] ⟨rfl, rfl, rfl, rfl, _, rfl, rfl, ?_⟩
    unfold σgc
    simp only [List.map_cons, List.map_nil, List.getD_cons_zero, List.getD_cons_succ, AO.gc, gc_row]
    rfl
open Go Go.Ab Go.Proofs.YtbhbbjngndmnmaaGreatDoor.B
def mK : Nat → List (Nat × List Int)
  | 0 => []
  | 1 => [(0, [2])]
  | _ => [(0, [2]), (1, [3])]
def mX : Nat → List T
  | 0 => []
  | 1 => [vi 0]
  | _ => [vi 0, vi 1]
def mC : Nat → Nat
  | 0 => 0
  | 1 => 1
  | _ => 2
def mS (i : Nat) : Nat := match i with | 0 => 4 | 1 => 8 | _ => 0
def mB (i : Nat) : Bool := match i with | 0 => true | 1 => true | _ => false
theorem hmatch_all (i : Nat) (hi : i < 4) : ACall Tryz.prog 106 (agM i) (stM (mK i) (mX i) (mC i) 0) (fun o σ' => o = .ret (.t (vb (mB i))) ∧ σ' = stM (mK (i + 1)) (mX (i + 1)) (mC (i + 1)) (mS i)) := by
  rcases (show i = 0 ∨ i = 1 ∨ i = 2 ∨ i = 3 by omega) with rfl | rfl | rfl | rfl
  · exact hmatch_yes 0 2 12 (by decide) (by decide) rfl (by decide) (by decide) [] [] 0 rfl
  · exact hmatch_yes 1 3 8 (by decide) (by decide) rfl (by decide) (by decide) [(0, [2])] [vi 0] 1 (by decide)
  · exact hmatch_no 2 (by decide) rfl _ _ _
  · exact hmatch_no 3 (by decide) rfl _ _ _
theorem gkH (C : List Nat) (ks : List (Nat × List Int)) (xs : List T) (clk : Nat) (L : List AO) : σgc [0, 1, 2, 3] (.cells ((C.map fun z : Nat => vu z).map .t) :: .cells [.t (vu (15 : Nat))] :: .cells [.map 3] :: .map shM ks xs clk :: L) 12 = [.cells ((C.map fun z : Nat => vu z).map .t), .cells [.t (vu (15 : Nat))], .cells [.map 3], .map shM ks xs clk] := by
  unfold σgc
  simp only [List.map_cons, List.map_nil, List.getD_cons_zero, List.getD_cons_succ, AO.gc, gc_row]
  rfl
set_option maxRecDepth 8000 in
set_option maxHeartbeats 8000000 in
theorem hhorses_ok : ACall Tryz.prog 80 [.t chA, .t (vu (15 : Nat))] [] (ret (vi 2)) := by
  refine ACall.walk k80 ?_
  have q15 := fun k hk => hhas_ok 15 k (by decide) hk
  have qM := hmatch_all
  have qs := hsize_ok 15 (by decide)
  have e15 : size 15 = 4 := by decide
  rw [e15] at qs
  unfold stM rC at qM
  unfold c80 chA
  have hC : (ch4.map fun z : Nat => vu z) = [vu (12 : Nat), vu (8 : Nat), vu (0 : Nat), vu (0 : Nat), vu (0 : Nat), vu (0 : Nat), vu (0 : Nat)] := rfl
  simp only [go_sem, Nat.reduceEqDiff, Nat.reduceAdd, undef]
  refine awpL_loopK 7 (fun i st => st = { env := [(10, .t (vi i)), (2, .ptr 0 0), (3, .ptr 1 0), (5, .ptr 2 0)], σ := [.cells ((ch4.map fun z : Nat => vu z).map .t), .cells [.t (vu (15 : Nat))], .cells [.map 3], .map shM (mK (min i 4)) (mX (min i 4)) (mC (min i 4))] })
    ⟨_, Sub.gc [0, 1, 3, 2] [10, 2, 3, 5] rfl rfl, rfl⟩ ?_
  rintro i st hi rfl
  have hwi : IntKind.i64.wrap ((i : Int) + 1) = ((i + 1 : Nat) : Int) := by rw [wrap_id (by omega) (by omega)]; omega
  cases g : decide ((i : Int) < 7)
  · have hi7 : i = 7 := by have := of_decide_eq_false g; omega
    subst hi7
    have w2 : IntKind.i64.wrap ((4 : Nat) - 2) = 2 := by decide
    simp only [go_sem, Nat.reduceEqDiff, Int.reduceLT, decide_false]
    refine ACallL.quiet1 qs rfl rfl rfl ?_
    simp only [go_sem, Nat.reduceEqDiff, mapOf?]
    exact finL_ret [] ⟨rfl, rfl, rfl, rfl, _, rfl, res_mk rfl⟩
  have hi7 : i < 7 := by have := of_decide_eq_true g; omega
  have q1 := q15 i hi7
  rw [fif i hi7] at q1
  by_cases c : i < 4
  · rw [decide_eq_true c] at q1
    have m1 : min i 4 = i := by omega
    have m2 : min (i + 1) 4 = i + 1 := by omega
    rw [m1, m2]
    have q := qM i c
    simp only [go_sem, Nat.reduceEqDiff, g]
    refine ACallL.quiet1 q1 rfl rfl rfl ?_
    simp only [go_sem, Nat.reduceEqDiff, Nat.reduceAdd, Bool.not_true, undef]
    refine ACall.mono q ?_
    rintro o σ' ⟨rfl, rfl⟩
    simp only [go_sem, Nat.reduceEqDiff, hwi]
    exact ⟨hi7, _, Sub.gc [0, 1, 2, 3] [10, 2, 3, 5] rfl rfl, St.gc_mk rfl (gkH _ _ _ _ _) rfl rfl⟩
  · rw [decide_eq_false c] at q1
    have m1 : min i 4 = 4 := by omega
    have m2 : min (i + 1) 4 = 4 := by omega
    rw [m1, m2]
    simp only [go_sem, Nat.reduceEqDiff, g]
    refine ACallL.quiet1 q1 rfl rfl rfl ?_
    simp only [go_sem, Nat.reduceEqDiff, Bool.not_false, hwi]
    exact ⟨hi7, _, Sub.gc [0, 1, 2, 3] [10, 2, 3, 5] rfl rfl, St.gc_mk rfl (gkH _ _ _ _ _) rfl rfl⟩
open Go Go.Ab Go.Proofs.YtbhbbjngndmnmaaGreatDoor.B
def clO : E := .fn (.func 82) [] [.ptr 0 0, .ptr 1 0, .ptr 2 0, .ptr 3 0, .ptr 4 0]
def agO (i : Nat) : List E := [.t (vi i), .ptr 0 0, .ptr 1 0, .ptr 2 0, .ptr 3 0, .ptr 4 0]
def chC : AO := .cells [.t (vu (12 : Nat)), .t (vu (8 : Nat)), .t (vu (0 : Nat)), .t (vu (0 : Nat)), .t (vu (0 : Nat)), .t (vu (0 : Nat)), .t (vu (0 : Nat))]
def stO (L : List Int) : List AO := [.cells [.t (vi 1), .t (.slice 4 (mvs.map tMv))], .cells [.t (vi 2)], .cells ((L.map vi).map .t), chC, .cells [clO]]
def lO : Nat → List Int
  | 0 => [0, 0, 0, 0, 0, 0, 0]
  | 1 => [0, 0, 0, 0, 0, 0, 0]
  | 2 => [0, 1, 0, 0, 0, 0, 0]
  | 3 => [0, 1, 0, 0, 0, 0, 0]
  | _ => [0, 1, 0, 1, 0, 0, 0]
def hO : Nat → Nat
  | 0 => 0
  | 1 => 1
  | 2 => 0
  | _ => 1
theorem o_len (i : Nat) : (lO i).length = 7 := by
  rcases i with _ | _ | _ | _ | i <;> rfl
theorem o_set : ∀ i, i < 4 → (lO i).set i (hO i) = lO (i + 1) := by decide
theorem o_le : ∀ i, i < 4 → hO i ≤ 1 := by decide
theorem o_no : ∀ i, i < 4 → ∀ k, k < i → ¬ ((lO i).getD k 0 = (hO i : Int) ∧ apF i k = true) := by decide
theorem o_yes : ∀ i, i < 4 → ∀ h, h < hO i → ∃ k, k < i ∧ (lO i).getD k 0 = (h : Int) ∧ apF i k = true := by
  intro i hi h hh
  have h1 := o_le i hi
  have z0 : hO 0 = 0 := rfl
  have z2 : hO 2 = 0 := rfl
  rcases (show i = 0 ∨ i = 1 ∨ i = 2 ∨ i = 3 by omega) with rfl | rfl | rfl | rfl
  · omega
  · exact ⟨0, by decide, by have : h = 0 := by omega
                            subst this; rfl, by decide⟩
  · omega
  · exact ⟨2, by decide, by have : h = 0 := by omega
                            subst this; rfl, by decide⟩
theorem gkO (L : List Int) : σgc [0, 1, 2, 3, 4] [.cells [.t (vi 1), .t (.slice 4 (mvs.map tMv))], .cells [.t (vi 2)], .cells ((L.map vi).map .t), chC, .cells [clO]] 12 = [.cells [.t (vi 1), .t (.slice 4 (mvs.map tMv))], .cells [.t (vi 2)], .cells ((L.map vi).map .t), chC, .cells [clO]] := by
  unfold σgc
  simp only [List.map_cons, List.map_nil, List.getD_cons_zero, List.getD_cons_succ, AO.gc, gc_row]
  rfl
set_option maxRecDepth 8000 in
set_option maxHeartbeats 8000000 in
theorem hon_ok : ∀ (d i : Nat), i + d = 4 → ACall Tryz.prog 82 (agO i) (stO (lO i)) (fun o σ' => o = .ret (.t (vb true)) ∧ σ' = stO (lO 4)) := by
  intro d
  have hml : mvs.length = 4 := rfl
  induction d with
  | zero =>
    intro i hid
    have : i = 4 := by omega
    subst this
    refine ACall.walk k82 ?_
    unfold c82 agO stO
    generalize lO 4 = L at *
    simp only [go_sem, Nat.reduceEqDiff, Nat.reduceAdd, beq_self_eq_true, List.length_map, hml]
    exact finL_ret [0, 1, 2, 3, 4] ⟨rfl, rfl, rfl, rfl, _, rfl, rfl, gkO L⟩
  | succ d ih =>
    intro i hid
    have hi : i < 4 := by omega
    have ih := ih (i + 1) (by omega)
    refine ACall.walk k82 ?_
    have f0 := o_len i
    have f1 := o_set i hi
    have f2 := o_le i hi
    have f3 := o_no i hi
    have f4 := o_yes i hi
    rw [← f1] at ih
    generalize hO i = h0 at *
    generalize lO (i + 1) = L1 at *
    generalize lO 4 = L4 at *
    generalize lO i = L at *
    have g4 : ((i : Int) == ((mvs.length : Nat) : Int)) = false := by rw [hml]; exact beq_false_of_ne (by omega)
    have i0 : ((i : Int) < 0) = False := eq_false (by omega)
    have i7 : ((i : Int) < 7) = True := eq_true (by omega)
    have qA := fun k hk => hapart_ok i k (by omega) hk
    have hch : chA = .agg [vu (12 : Nat), vu (8 : Nat), vu (0 : Nat), vu (0 : Nat), vu (0 : Nat), vu (0 : Nat), vu (0 : Nat)] := rfl
    rw [hch] at qA
    unfold c82 agO stO chC
    unfold agO stO chC at ih
    simp only [go_sem, Nat.reduceEqDiff, Nat.reduceAdd, List.length_map, g4]
    refine awpL_loopK h0 (fun h st => st = { env := [(17, .t (vi h)), (0, .t (vi i)), (3, .ptr 2 0), (4, .ptr 3 0), (5, .ptr 4 0), (16, .t (vi 2))], σ := [.cells [.t (vi 1), .t (.slice 4 (mvs.map tMv))], .cells [.t (vi 2)], .cells ((L.map vi).map .t), chC, .cells [clO]] })
      ⟨_, Sub.gc [0, 1, 2, 3, 4] [17, 0, 3, 4, 5, 16] rfl rfl, St.gc_mk rfl (gkO L) rfl rfl⟩ ?_
    rintro h st hh rfl
    have hwh : IntKind.i64.wrap ((h : Int) + 1) = ((h + 1 : Nat) : Int) := by rw [wrap_id (by omega) (by omega)]; omega
    have g : decide ((h : Int) < 2) = true := decide_eq_true (by omega)
    unfold chC
    simp only [go_sem, Nat.reduceEqDiff, g]
    refine awpL_loopK i (fun k st => (∀ j < k, ¬ (L.getD j 0 = (h : Int) ∧ apF i j = true)) ∧ st = { env := [(21, .t (vi k)), (0, .t (vi i)), (3, .ptr 2 0), (4, .ptr 3 0), (5, .ptr 4 0), (8, .t (vi h)), (16, .t (vi 2)), (17, .t (vi h)), (20, .t (vi i))], σ := [.cells [.t (vi 1), .t (.slice 4 (mvs.map tMv))], .cells [.t (vi 2)], .cells ((L.map vi).map .t), chC, .cells [clO]] })
      ⟨_, Sub.gc [0, 1, 2, 3, 4] [21, 0, 3, 4, 5, 8, 16, 17, 20] rfl rfl, by simp, St.gc_mk rfl (gkO L) rfl rfl⟩ ?_
    rintro k st hk ⟨hno, rfl⟩
    have hwk : IntKind.i64.wrap ((k : Int) + 1) = ((k + 1 : Nat) : Int) := by rw [wrap_id (by omega) (by omega)]; omega
    unfold chC
    cases gk : decide ((k : Int) < i)
    · have hki : k = i := by have := of_decide_eq_false gk; omega
      subst hki
      have hh0 : h = h0 := by
        rcases Nat.lt_or_ge h h0 with c | c
        · obtain ⟨j, j1, j2, j3⟩ := f4 h c
          exact absurd ⟨j2, j3⟩ (hno j j1)
        · omega
      subst hh0
      have hset : List.take k (List.map E.t (List.map vi L)) ++ [E.t (vi (h : Int))] ++ List.drop (k + 1) (List.map E.t (List.map vi L)) = List.map E.t (List.map vi (L.set k (h : Int))) := by
        rw [List.map_set, List.map_set, List.set_eq_take_append_cons_drop, if_pos (by simp; omega)]
        simp
      have i6 : (k ≤ 6) = True := eq_true (by omega)
      have hwi : IntKind.i64.wrap ((k : Int) + 1) = ((k + 1 : Nat) : Int) := hwk
      simp only [go_sem, Nat.reduceEqDiff, Nat.reduceAdd, Nat.reduceLeDiff, undef, gk, i7, List.length_map, Nat.mul_one, hset, f0, i6, hwi, clO]
      refine ACall.mono ih ?_
      rintro o σ' ⟨rfl, rfl⟩
      simp only [go_sem, Nat.reduceEqDiff, Nat.reduceAdd]
      exact finL_ret [0, 1, 2, 3, 4] ⟨rfl, rfl, rfl, rfl, _, rfl, rfl, gkO L4⟩
    have hki : k < i := by have := of_decide_eq_true gk; omega
    have k0 : ((k : Int) < 0) = False := eq_false (by omega)
    have k7 : ((k : Int) < 7) = True := eq_true (by omega)
    have hx : L[k]? = some L[k] := List.getElem?_eq_getElem (by omega)
    have hxd : L.getD k 0 = L[k] := by rw [List.getD_eq_getElem?_getD, hx]; rfl
    have q := qA k (by omega)
    have hno1 : ¬ (L.getD k 0 = (h : Int) ∧ apF i k = true) → ∀ j < k + 1, ¬ (L.getD j 0 = (h : Int) ∧ apF i j = true) := fun c j hj => by
      by_cases e : j = k
      · rw [e]; exact c
      · exact hno j (by omega)
    have f3 := f3 k hki
    rw [hxd] at hno1 f3
    generalize L[k] = x at *
    generalize apF i k = b at *
    cases e1 : (x == (h : Int))
    · simp only [go_sem, Nat.reduceEqDiff, undef, gk, k7, List.length_map, Nat.mul_one, List.getElem?_map, hx, Option.map_some, e1, hwk]
      exact ⟨hki, _, Sub.gc [0, 1, 2, 3, 4] [21, 0, 3, 4, 5, 8, 16, 17, 20] rfl rfl, hno1 (fun c => by rw [c.1] at e1; simp at e1), St.gc_mk rfl (gkO L) rfl rfl⟩
    · simp only [go_sem, Nat.reduceEqDiff, Nat.reduceAdd, beq_self_eq_true, gk, k7, List.length_map, Nat.mul_one, List.getElem?_map, hx, Option.map_some, e1]
      refine ACallL.quiet1 q rfl rfl rfl ?_
      cases b
      · simp only [go_sem, Nat.reduceEqDiff, hwk]
        exact ⟨hki, _, Sub.gc [0, 1, 2, 3, 4] [21, 0, 3, 4, 5, 8, 16, 17, 20] rfl rfl, hno1 (fun c => by cases c.2), St.gc_mk rfl (gkO L) rfl rfl⟩
      · have hlt : h < h0 := by
          rcases Nat.lt_or_ge h h0 with c | c
          · exact c
          · exact absurd ⟨by rw [show h0 = h by omega]; simpa using e1, rfl⟩ f3
        simp only [go_sem, Nat.reduceEqDiff, Nat.reduceAdd, undef, hwh]
        exact ⟨hlt, _, Sub.gc [0, 1, 2, 3, 4] [17, 0, 3, 4, 5, 16] rfl rfl, St.gc_mk rfl (gkO L) rfl rfl⟩
open Go Go.Ab Go.Proofs.YtbhbbjngndmnmaaGreatDoor.B
def Fine (m : Mv) : Prop := (0 ≤ m.at_ ∧ m.at_ ≤ 200) ∧ (0 ≤ m.place ∧ m.place ≤ 30) ∧ 1 ≤ m.lo ∧ m.lo ≤ m.hi ∧ m.hi ≤ 20
theorem mvs_fine : ∀ m ∈ mvs, Fine m := by
  intro m hm
  simp only [mvs, List.mem_cons, List.not_mem_nil, or_false] at hm
  rcases hm with rfl | rfl | rfl | rfl <;> (unfold Fine; simp)
theorem hyes_ok : ACall Tryz.prog 77 [.t tHo] [] (ret (vb true)) := by
  refine ACall.walk k77 ?_
  unfold c77 tHo
  simp only [go_sem]
  exact finL_ret [] ⟨rfl, rfl, rfl, rfl, _, rfl, res_mk rfl⟩
theorem win_ok {n lo hi : Int} (h : lo ≤ n ∧ n ≤ hi) : ACall Tryz.prog 102 [.t (vi n), .t (vi lo), .t (vi hi)] [] (ret (vb true)) := by
  have := hwithin_ok n lo hi
  rw [decide_eq_true h.1, decide_eq_true h.2] at this
  exact this
set_option maxRecDepth 8000 in
set_option maxHeartbeats 8000000 in
theorem hopen_ok : ACall Tryz.prog 76 [.t tHo, .t (.fn (.func 77) [] [])] [] (ret tHo) := by
  refine ACall.walk k76 ?_
  have hml : mvs.length = 4 := rfl
  have qp := win_ok (n := 1) (lo := 0) (hi := 3) (by decide)
  have qa := hask_ok 1
  have qb := hask_ok 2
  have qy := hyes_ok
  unfold c76
  unfold tHo at qy ⊢
  have g7 : decide (((mvs.length : Nat) : Int) ≤ 7) = true := by rw [hml]; rfl
  simp only [go_sem, Nat.reduceEqDiff, Nat.reduceAdd, Nat.reduceLeDiff]
  refine ACallL.quiet1 qp rfl rfl rfl ?_
  simp only [go_sem, Nat.reduceEqDiff, Nat.reduceAdd, beq_self_eq_true, List.length_map, g7]
  refine ACallL.quiet1 qa rfl rfl rfl ?_
  simp only [go_sem, Nat.reduceEqDiff, Nat.reduceAdd, List.length_map]
  refine awpL_for (i := 21) (L := 20) mvs.length (fun i st => st = { env := [(21, .t (vi i)), (20, .t (vi mvs.length)), (1, .t (.fn (.func 77) [] [])), (2, .ptr 0 0), (4, .ptr 1 0), (19, .t (.slice 4 (mvs.map tMv)))], σ := [.cells [.t (vi 1), .t (.slice 4 (mvs.map tMv))], .cells [.t (vi 0), .t (.lit (.slice none 0 0))]] }) ?_ ⟨_, Sub.gc [0, 1] [21, 20, 1, 2, 4, 19] rfl rfl, rfl⟩ ?_ ?_
  · rintro k st rfl; exact ⟨rfl, rfl⟩
  · rintro i st hi rfl
    have hwi : IntKind.i64.wrap ((i : Int) + 1) = ((i + 1 : Nat) : Int) := by rw [wrap_id (by omega) (by omega)]; omega
    have hx : mvs[i]? = some mvs[i] := List.getElem?_eq_getElem hi
    have sm := mvs_fine _ (List.getElem_mem hi)
    generalize mvs[i] = m at *
    obtain ⟨ma, mp, ml, mh⟩ := m
    unfold Fine at sm
    simp only at sm
    have q1 := win_ok sm.1
    have q2 := win_ok sm.2.1
    have g1 : decide (1 ≤ ml) = true := decide_eq_true sm.2.2.1
    have g2 : decide (ml ≤ mh) = true := decide_eq_true sm.2.2.2.1
    have g3 : decide (mh ≤ 20) = true := decide_eq_true sm.2.2.2.2
    have hm : tMv ⟨ma, mp, ml, mh⟩ = .agg [vi ma, vi mp, vi ml, vi mh] := rfl
    simp only [go_sem, Nat.reduceEqDiff, Nat.reduceAdd, Nat.reduceLeDiff, undef, List.getElem?_map, hx, Option.map_some, hm]
    refine ACallL.quiet1 q1 rfl rfl rfl ?_
    simp only [go_sem, Nat.reduceEqDiff, Nat.reduceAdd, Nat.reduceLeDiff, beq_self_eq_true]
    refine ACallL.quiet1 q2 rfl rfl rfl ?_
    simp only [go_sem, Nat.reduceEqDiff, Nat.reduceAdd, Nat.reduceLeDiff, beq_self_eq_true, g1, g2, g3]
    refine ACallL.quiet1 qa rfl rfl rfl ?_
    simp only [go_sem, Nat.reduceEqDiff, hwi]
    exact ⟨_, Sub.gc [0, 1] [21, 20, 1, 2, 4, 19] rfl rfl, rfl⟩
  · rintro st rfl
    simp only [go_sem, Nat.reduceEqDiff, Nat.reduceAdd, undef]
    refine ACallL.quiet1 qy rfl rfl rfl ?_
    simp only [go_sem, Nat.reduceEqDiff]
    refine ACallL.quiet1 qb rfl rfl rfl ?_
    simp only [go_sem, Nat.reduceEqDiff, Nat.reduceAdd, undef]
    exact finL_ret [] ⟨rfl, rfl, rfl, rfl, _, rfl, res_mk rfl⟩
open Go Go.Ab Go.Proofs.YtbhbbjngndmnmaaGreatDoor.B
def clF : E := .fn (.func 82) [] [.ptr 1 0, .ptr 3 0, .ptr 4 0, .ptr 2 0, .ptr 5 0]
def stF (L : List Int) : List AO := [.cells [.t (vi 0)], .cells [.t (vi 1), .t (.slice 4 (mvs.map tMv))], chC, .cells [.t (vi 2)], .cells ((L.map vi).map .t), .cells [clF]]
theorem hon_at {R : Lz (Out → List AO → Prop)} (hk : R.get (.ret (.t (vb true))) (stF (lO 4))) : @ACallL Tryz.prog 82 [.t (vi 0), .ptr 1 0, .ptr 3 0, .ptr 4 0, .ptr 2 0, .ptr 5 0] (stF (lO 0)) R := by
  refine ACall.mono (ACall.lend [1, 3, 4, 2, 5] (hon_ok 4 0 rfl) (by decide) (by show ∀ x ∈ [1, 3, 4, 2, 5], x < 6; decide) rfl (fun i o ho => ?_) (args := [.t (vi 0), .ptr 1 0, .ptr 3 0, .ptr 4 0, .ptr 2 0, .ptr 5 0]) rfl) ?_
  · match i, ho with
    | 0, ho => simp [stO] at ho; subst ho; rfl
    | 1, ho => simp [stO] at ho; subst ho; rfl
    | 2, ho => simp [stO] at ho; subst ho; rfl
    | 3, ho => simp [stO] at ho; subst ho; rfl
    | 4, ho => simp [stO] at ho; subst ho; rfl
  · rintro o σ1 ⟨o0, σ0, ⟨rfl, rfl⟩, _, rfl, rfl⟩
    exact hk
set_option maxRecDepth 8000 in
set_option maxHeartbeats 8000000 in
theorem Fewest_ok : ACall Tryz.prog 47 [.t tHo, .t (vb true)] [] (res (.ret (.tup [.t (vi 2), .t (.slice 1 [vi 0, vi 1, vi 0, vi 1]), .t (vi 0)]))) := by
  refine ACall.walkD k47 ?_
  have q1 := hopen_ok
  have q2 := htruth_ok
  have q3 := hchart_ok
  have q4 := hevery_ok
  have q5 := hhorses_ok
  have q6 := hon_ok 4 0 rfl
  have hml : mvs.length = 4 := rfl
  unfold chA ch4 at q5
  unfold ch4 at q3
  simp only [List.map_cons, List.map_nil] at q3 q5
  unfold c47
  unfold tHo at q1 q3 q4 ⊢
  simp only [go_sem, Nat.reduceEqDiff, Nat.reduceAdd]
  refine ACallL.fresh1 q1 rfl ?_
  simp only [go_sem, Nat.reduceEqDiff, Nat.reduceAdd, undef]
  repeat' (first | refine AndL.mk ?_ ?_ | refine ACallL.quiet1 q2 rfl rfl rfl ?_ | refine ACallL.quiet1 q3 rfl rfl rfl ?_ | simp only [go_sem, Nat.reduceEqDiff, Nat.reduceAdd, undef])
  all_goals
    refine awpL_gcpE [1, 2, 3] [4, 5, 6, 7, 8] { env := [(4, .t (vi 0)), (5, .t (.lit (.slice none 0 0))), (6, .ptr 0 0), (7, .ptr 1 0), (8, .ptr 2 0)], σ := [.cells [.t (vi 0)], .cells [.t (vi 1), .t (.slice 4 (mvs.map tMv))], chC], df := [.call 75 [.ptr 0 0]] } rfl rfl rfl ?_
    unfold chC
    simp only [go_sem, Nat.reduceEqDiff, Nat.reduceAdd]
    repeat' (first | refine AndL.mk ?_ ?_ | refine ACallL.quiet1 q4 rfl rfl rfl ?_ | refine ACallL.quiet1 q5 rfl rfl rfl ?_ | simp only [go_sem, Nat.reduceEqDiff, Nat.reduceAdd, undef])
    all_goals
      refine awpL_gcpE [0, 1, 2, 3] [4, 5, 6, 7, 8, 9] { env := [(4, .t (vi 0)), (5, .t (.lit (.slice none 0 0))), (6, .ptr 0 0), (7, .ptr 1 0), (8, .ptr 2 0), (9, .ptr 3 0)], σ := [.cells [.t (vi 0)], .cells [.t (vi 1), .t (.slice 4 (mvs.map tMv))], chC, .cells [.t (vi 2)]], df := [.call 75 [.ptr 0 0]] } rfl rfl rfl ?_
      unfold chC
      simp only [go_sem, Nat.reduceEqDiff, Nat.reduceAdd, undef]
      refine hon_at ?_
      unfold stF chC clF lO
      simp only [go_sem, Nat.reduceEqDiff, Nat.reduceAdd, Int.reduceToNat, Int.reduceLE, List.map_cons, List.map_nil, List.length_map, hml]
      refine ⟨by decide, ?_⟩
      refine awpL_gcpE [0, 3, 6] [4, 5, 6, 9, 10, 12] { env := [(4, .t (vi 0)), (5, .t (.lit (.slice none 0 0))), (6, .ptr 0 0), (9, .ptr 1 0), (10, .t (.ptr (.agg [vi 0, vi 1, vi 0, vi 1, vi 0, vi 0, vi 0]) 0)), (12, .loc 2 4)], σ := [.cells [.t (vi 0)], .cells [.t (vi 2)], .row 1 [.t (vi 0), .t (vi 0), .t (vi 0), .t (vi 0)]], df := [.call 75 [.ptr 0 0]] } rfl rfl rfl ?_
      simp only [go_sem, Nat.reduceEqDiff, Nat.reduceAdd, Nat.reduceSub, Nat.reduceLT, Nat.reduceLeDiff, Int.reduceToNat, Int.reduceLE, undef, bnd]
      refine finDL_ret rfl rfl (hanswer_none.mono fun σ' h => ?_)
      subst h
      exact ⟨_, rfl, [], rfl, rfl, res_mk rfl⟩
end Go.Proofs.YtbhbbjngndmnmaaGreatDoor.H
