/- Proved here: laws that the statements need (TpA, TpB, TpD, TpE, TpF). No conditions but those that each law states. -/
import Derived.Test.YtbhbbjngndmnmaaGreatDoorUA
import Derived.Test.YtbhbbjngndmnmaaGreatDoorUB
import Derived.Test.YtbhbbjngndmnmaaGreatDoorUC
import Derived.Test.YtbhbbjngndmnmaaGreatDoorUD
import Derived.Test.YtbhbbjngndmnmaaGreatDoorUE
set_option linter.unusedSimpArgs false
set_option linter.unusedVariables false
namespace Go.Proofs.YtbhbbjngndmnmaaGreatDoor
open Go Go.Ab
theorem span4_ok (a b : Int) : ACall Tryz.prog 9 [.t (vi a), .t (vi b)] [] (ret (.agg [vi a, vi b])) := by
  refine ACall.walk k9 ?_
  unfold c9
  simp only [go_sem, Nat.reduceEqDiff, Nat.reduceAdd, Nat.reduceLeDiff, undef]
  exact finL_ret [] ⟨rfl, rfl, rfl, rfl, _, rfl, res_mk rfl⟩
abbrev f12 : F.Fl := { low := 4, high := 8, quiet := 2, hs := [⟨2, 3, 0⟩, ⟨7, 8, 0⟩, ⟨3, 3, 1⟩, ⟨2, 4, 0⟩, ⟨1, 1, 0⟩, ⟨5, 5, 0⟩], ss := [⟨3, true⟩] }
set_option maxRecDepth 8000 in
set_option maxHeartbeats 4000000 in
theorem surf04_ok : ACall Tryz.prog 46 [] [] (ret (.agg (S.su5 S.smp))) := by
  refine ACall.walk k46 ?_
  unfold c46
  simp only [go_sem]
  repeat' (first | refine ACallL.quiet1 (span4_ok _ _) rfl rfl rfl ?_ | simp only [go_sem, Nat.reduceEqDiff, Nat.reduceAdd, Nat.reduceLT, Nat.reduceLeDiff, undef, undef])
  exact finL_ret [] ⟨rfl, rfl, rfl, rfl, _, rfl, res_mk rfl⟩
set_option maxRecDepth 8000 in
set_option maxHeartbeats 4000000 in
theorem boats12_ok : ACall Tryz.prog 23 [] [] (ret (.agg (B.bo5 (B.smp [])))) := by
  refine ACall.walk k23 ?_
  unfold c23
  simp only [go_sem]
  repeat' (first | refine ACallL.quiet1 (span4_ok _ _) rfl rfl rfl ?_ | simp only [go_sem, Nat.reduceEqDiff, Nat.reduceAdd, Nat.reduceLT, Nat.reduceLeDiff, undef, undef])
  exact finL_ret [] ⟨rfl, rfl, rfl, rfl, _, rfl, res_mk rfl⟩
set_option maxRecDepth 8000 in
set_option maxHeartbeats 4000000 in
theorem flag12_ok : ACall Tryz.prog 24 [] [] (ret (.agg (F.fl5 f12))) := by
  refine ACall.walk k24 ?_
  unfold c24
  simp only [go_sem]
  repeat' (first | refine ACallL.quiet1 (span4_ok _ _) rfl rfl rfl ?_ | simp only [go_sem, Nat.reduceEqDiff, Nat.reduceAdd, Nat.reduceLT, Nat.reduceLeDiff, undef, undef])
  exact finL_ret [] ⟨rfl, rfl, rfl, rfl, _, rfl, res_mk rfl⟩
abbrev tBy (ws : List Nat) : T := .slice 1 (ws.map fun w : Nat => .lit (.int .u16 w))
def drawN (ws : List Nat) (k : Nat) : Nat := if ws.length = 0 then 0 else ws.getD (k % ws.length) 0 + 47 * k
def drawI (ws : List Nat) (k : Nat) (lo hi : Int) : Int := lo + ((drawN ws k : Nat) : Int).tmod (hi - lo + 1)
theorem drawI_in (ws : List Nat) (k : Nat) {lo hi : Int} (hx : lo ≤ hi) : lo ≤ drawI ws k lo hi ∧ drawI ws k lo hi ≤ hi := by
  unfold drawI
  have : 0 ≤ ((drawN ws k : Nat) : Int).tmod (hi - lo + 1) ∧ ((drawN ws k : Nat) : Int).tmod (hi - lo + 1) < hi - lo + 1 := by
    rw [Int.tmod_eq_emod_of_nonneg (by omega)]
    exact ⟨Int.emod_nonneg _ (by omega), Int.emod_lt_of_pos _ (by omega)⟩
  omega
theorem mod_nat (a b : Nat) : (a : Int).tmod (b : Int) = ((a % b : Nat) : Int) := by rw [Int.tmod_eq_emod_of_nonneg (by omega)]; rfl
theorem draws_ok (ws : List Nat) : ACall Tryz.prog 8 [.t (tBy ws)] [] (fun o σ' => o = .ret (.fn (.func 26) [] [.ptr 0 0, .t (.ptr (.agg [tBy ws]) 0)]) ∧ σ' = [.cells [.t (vi 0)]]) := by
  refine ACall.walk k8 ?_
  unfold c8
  simp only [go_sem, Nat.reduceEqDiff, undef]
  exact finL_ret [1] ⟨rfl, rfl, rfl, rfl, _, rfl, rfl, rfl⟩
theorem drawsL (ws : List Nat) {σ : List AO} {R : Lz (Out → List AO → Prop)} (h : R.get (.ret (.fn (.func 26) [] [.ptr σ.length 0, .t (.ptr (.agg [tBy ws]) 0)])) (σ ++ [.cells [.t (vi 0)]])) : @ACallL Tryz.prog 8 [.t (tBy ws)] σ R := by
  refine ACall.mono (ACall.lend [] (draws_ok ws) (by simp) (by simp) rfl (fun j o ho => by simp at ho) (args := [.t (tBy ws)]) (by simp [E.rens, E.ren])) ?_
  rintro o σ1 ⟨o0, σ0, ⟨rfl, rfl⟩, _, rfl, rfl⟩
  rw [show ∀ l : List AO, lendB σ [] l = σ ++ l from fun l => by simp [lendB]]
  exact h
set_option maxRecDepth 8000 in
set_option maxHeartbeats 4000000 in
theorem draw_ok (ws : List Nat) (hw : ∀ w ∈ ws, w < 65536) (hl : ws.length < 9223372036854775808) (k : Nat) (hk : k < 1000) (lo hi : Int) (hx : 0 ≤ lo ∧ lo ≤ hi ∧ hi ≤ 100) :
    ACall Tryz.prog 26 [.t (.agg [vi lo, vi hi]), .ptr 0 0, .t (.ptr (.agg [tBy ws]) 0)] [.cells [.t (vi k)]] (fun o σ' => ∃ a', (o = .ret (.t (vi (drawI ws (k + 1) lo hi))) ∧ a' = AO.cells [.t (vi (k + 1 : Nat))]) ∧ σ' = [a']) := by
  refine ACall.walk k26 ?_
  unfold c26
  have hdr : drawI ws (k + 1) lo hi = lo + ((drawN ws (k + 1) : Nat) : Int).tmod (hi - lo + 1) := rfl
  have hin := drawI_in ws (k + 1) hx.2.1
  generalize drawI ws (k + 1) lo hi = dv at *
  have wk : IntKind.i64.wrap ((k : Int) + 1) = ((k + 1 : Nat) : Int) := by rw [wrap_id (by omega) (by omega)]; omega
  simp only [go_sem, Nat.reduceEqDiff, Nat.reduceAdd, undef, undef, wk, List.length_map]
  cases h0 : ((ws.length : Int) == 0)
  · have n0 : ¬ ((ws.length : Int) = 0) := by simpa using h0
    have n0' : ¬ ws.length = 0 := by omega
    have hm : (k + 1) % ws.length < ws.length := Nat.mod_lt _ (by omega)
    have t1 := mod_nat (k + 1) ws.length
    have hgm : ws[(k + 1) % ws.length]? = some ws[(k + 1) % ws.length] := List.getElem?_eq_getElem hm
    have hwm := hw _ (List.getElem_mem hm)
    have hnn : drawN ws (k + 1) = ws[(k + 1) % ws.length] + 47 * (k + 1) := by
      unfold drawN
      rw [if_neg n0', List.getD_eq_getElem?_getD, hgm]; rfl
    rw [hnn] at hdr
    generalize ws[(k + 1) % ws.length] = w at *
    generalize (k + 1) % ws.length = m at *
    have a1 : IntKind.i64.wrap (w : Int) = w := wrap_id (by omega) (by omega)
    have a2 : IntKind.i64.wrap (47 * ((k + 1 : Nat) : Int)) = 47 * ((k + 1 : Nat) : Int) := wrap_id (by omega) (by omega)
    have a3 : IntKind.i64.wrap ((w : Int) + 47 * ((k + 1 : Nat) : Int)) = ((w + 47 * (k + 1) : Nat) : Int) := by rw [wrap_id (by omega) (by omega)]; omega
    have a4 : IntKind.i64.wrap (hi - lo) = hi - lo := wrap_id (by omega) (by omega)
    have a5 : IntKind.i64.wrap (hi - lo + 1) = hi - lo + 1 := wrap_id (by omega) (by omega)
    have a6 : ¬ (hi - lo + 1 = 0) := by omega
    have a7 : IntKind.i64.wrap (lo + ((w + 47 * (k + 1) : Nat) : Int).tmod (hi - lo + 1)) = dv := by rw [← hdr]; exact wrap_id (by omega) (by omega)
    simp only [go_sem, Nat.reduceEqDiff, Nat.reduceAdd, Nat.reduceLeDiff, List.length_map, n0, t1, List.getElem?_map, hgm, Option.map_some, a1, a2, a3, a4, a5, a6, a7]
    exact finL_ret [0] ⟨rfl, rfl, rfl, rfl, _, rfl, _, ⟨rfl, rfl⟩, rfl⟩
  · have n0' : ws.length = 0 := by have := eq_of_beq h0; omega
    have hnn : drawN ws (k + 1) = 0 := by unfold drawN; rw [if_pos n0']
    rw [hnn] at hdr
    have : dv = lo := by rw [hdr]; simp
    subst this
    simp only [go_sem, Nat.reduceEqDiff, Nat.reduceAdd, Nat.reduceLeDiff]
    exact finL_ret [0] ⟨rfl, rfl, rfl, rfl, _, rfl, _, ⟨rfl, rfl⟩, rfl⟩
open Go Go.Ab
theorem smp_save : S.saveF S.smp 1 = some ([-1, 0, -1], 1) := by decide +kernel
theorem smp_OK : S.smp.ok = true := by decide +kernel
theorem f12_up : F.specUp f12 = (12, 62, 0) := by decide +kernel
theorem b12_near : B.specNearest (B.smp []) 1 = ((0, 1), 0) := by decide +kernel
theorem toKey2 (a b : Int) : toKey (some [some .i64, some .i64], none) (.t (.agg [vi a, vi b])) = some [a, b] := by
  simp [toKey, cellKeys, cellKey]
theorem kEq2 (a b c d : Int) : kEq [some .i64, some .i64] [a, b] [c, d] = ((a == c) && (b == d)) := by
  simp [kEq, cellEq]
set_option maxRecDepth 8000 in
set_option maxHeartbeats 4000000 in
theorem horses04_ok : ACall Tryz.prog 48 [] [] (ret H.tHo) := by
  refine ACall.walk H.k48 ?_
  unfold H.c48
  simp only [go_sem]
  repeat' (first | refine ACallL.quiet1 (span4_ok _ _) rfl rfl rfl ?_ | simp only [go_sem, Nat.reduceEqDiff, Nat.reduceAdd, Nat.reduceLT, Nat.reduceLeDiff, undef, undef])
  exact finL_ret [] ⟨rfl, rfl, rfl, rfl, _, rfl, res_mk rfl⟩
set_option maxRecDepth 8000 in
set_option maxHeartbeats 4000000 in
theorem awake04_ok : ACall Tryz.prog 25 [] [] (ret (vb true)) := by
  have hl : S.Lens S.smp := by decide
  have h45 := S.Save_ok S.smp hl 1
  have h49 := S.ints_ok [-1, 0, -1] [-1, 0, -1] (by decide)
  have h47 := H.Fewest_ok
  have hsp : S.specSave S.smp 1 = .ret (.tup [.t (S.tI [-1, 0, -1]), .t (vi 1), .t (vi 0)]) := by
    have h2 : S.wI 1 0 5 = true := by decide
    simp only [S.specSave, smp_OK, h2, smp_save]; rfl
  rw [hsp] at h45
  have hsm : S.su5 S.smp = [vi 3, vi 2, .slice 2 [.agg [vi 3, vi 4], .agg [vi 5, vi 5], .agg [vi 6, vi 7], .agg [vi 4, vi 4]], .slice 2 [.agg [vi 1, vi 1], .agg [vi 1, vi 2], .agg [vi 2, vi 3], .agg [vi 0, vi 1]], .slice 3 [.agg [vi 6, vi 2, vi 0], .agg [vi 4, vi 1, vi 1], .agg [vi 9, vi 0, vi 2]]] := rfl
  have hs := surf04_ok
  have hh := horses04_ok
  rw [hsm] at h45 hs
  refine ACall.walk k25 ?_
  unfold c25
  simp only [go_sem]
  refine ACallL.fresh1 hs rfl ?_
  simp only [go_sem, Nat.reduceEqDiff]
  refine ACallL.fresh1 h45 rfl ?_
  simp only [go_sem, Nat.reduceEqDiff, Int.reduceNeg]
  refine ACallL.fresh1 hh rfl ?_
  simp only [go_sem, Nat.reduceEqDiff, Int.reduceNeg]
  refine ACallL.fresh1 h47 rfl ?_
  simp only [go_sem, Nat.reduceEqDiff, Nat.reduceAdd, Nat.reduceLT, Int.reduceNeg]
  refine ACallL.quiet1 h49 rfl rfl rfl ?_
  simp only [go_sem, Nat.reduceEqDiff, Int.reduceNeg, decide_true, beq_self_eq_true]
  exact finL_ret [] ⟨rfl, rfl, rfl, rfl, _, rfl, res_mk rfl⟩
set_option maxRecDepth 8000 in
set_option maxHeartbeats 4000000 in
theorem awake12_ok : ACall Tryz.prog 7 [] [] (ret (vb true)) := by
  have hl : B.Lens (B.smp []) := by decide
  have h22 := B.Nearest_ok (B.smp []) hl 1
  have h11 := F.Up_ok f12 (by decide)
  rw [b12_near] at h22
  rw [f12_up] at h11
  simp only [B.spanE, B.tSp, F.twoE] at h22 h11
  have hs := boats12_ok
  have hf := flag12_ok
  have e0 : B.bo5 (B.smp []) = [vi 6, vi 4, vi 1, vi 6, .slice 1 [.slice 5 [.agg [vi 0, vi 0, vi 0, vi 3, vi 3], .agg [vi 4, vi 2, vi 2, vi 2, vi 3]], .slice 5 [.agg [vi 2, vi 3, vi 4, vi 1, vi 1], .agg [vi 5, vi 5, vi 5, vi 0, vi 3]]]] := rfl
  have e1 : F.fl5 f12 = [vi 4, vi 8, vi 2, .slice 3 [.agg [vi 2, vi 3, vi 0], .agg [vi 7, vi 8, vi 0], .agg [vi 3, vi 3, vi 1], .agg [vi 2, vi 4, vi 0], .agg [vi 1, vi 1, vi 0], .agg [vi 5, vi 5, vi 0]], .slice 2 [.agg [vi 3, vb true]]] := rfl
  rw [e0] at h22 hs
  rw [e1] at h11 hf
  refine ACall.walk k7 ?_
  unfold c7
  simp only [go_sem]
  refine ACallL.fresh1 hs rfl ?_
  simp only [go_sem, Nat.reduceEqDiff]
  refine ACallL.fresh1 h22 rfl ?_
  simp only [go_sem, Nat.reduceEqDiff, Nat.reduceAdd, undef]
  refine ACallL.fresh1 hf rfl ?_
  simp only [go_sem, Nat.reduceEqDiff]
  refine ACallL.fresh1 h11 rfl ?_
  simp only [go_sem, Nat.reduceEqDiff, Nat.reduceAdd]
  refine ACallL.quiet1 (span4_ok 0 1) rfl rfl rfl ?_
  simp only [go_sem, Nat.reduceEqDiff, Nat.reduceAdd, Bool.not_true, beq_self_eq_true, Bool.and_true, toKey2, kEq2]
  refine ACallL.quiet1 awake04_ok rfl rfl rfl ?_
  simp only [go_sem, Nat.reduceEqDiff, Nat.reduceAdd, Bool.not_true, beq_self_eq_true, Bool.and_true, toKey2, kEq2]
  exact finL_ret [] ⟨rfl, rfl, rfl, rfl, _, rfl, res_mk rfl⟩
end Go.Proofs.YtbhbbjngndmnmaaGreatDoor
namespace Go.Proofs.YtbhbbjngndmnmaaGreatDoor.F
open Go Go.Ab
def withS (f : Fl) (xs : List Sn) : Fl := { f with ss := xs }
theorem kAcc_withS (f : Fl) (xs : List Sn) (lo : Int) : ∀ j, kAcc (withS f xs) lo j = kAcc f lo j
  | 0 => rfl
  | j + 1 => by simp only [kAcc, kAcc_withS f xs lo j]; rfl
theorem Kf_withS (f : Fl) (xs : List Sn) : Kf (withS f xs) = Kf f := by
  funext i
  unfold Kf kindsN
  simp only [kAcc_withS]
  rfl
theorem kls_withS (f : Fl) (xs : List Sn) : ∀ l h, kls (withS f xs) l h = kls f l h
  | 0, _ => rfl
  | l + 1, h => by simp only [kls, Kf_withS, kls_withS f xs l]
theorem truths_withS (f : Fl) (xs : List Sn) : truths (withS f xs) = (rows f).filter (right f xs) := by
  unfold truths rows
  rw [kls_withS]
  rfl
theorem withS_OK {f : Fl} (hf : f.OK) {xs : List Sn} (hl : xs.length ≤ 8) (h : ∀ s ∈ xs, 0 ≤ s.h ∧ s.h < f.hs.length) : (withS f xs).OK :=
  ⟨hf.low, hf.lh, hf.high, hf.quiet, hf.nh, hl, hf.hs, h⟩
def kindK (f : Fl) (w : Int) (th : Bool) : Nat := if th = true ∨ w ≥ f.high then 2 else if w < f.low then 0 else 1
theorem kindK_lt (f : Fl) (w : Int) (th : Bool) : kindK f w th < 3 := by unfold kindK; split <;> (try split) <;> decide
theorem kAcc_has (f : Fl) (lo : Int) {k : Nat} : ∀ {j m : Nat}, m < j → kBit f (lo + m) = 2 ^ k → (kAcc f lo j).testBit k = true
  | j + 1, m, hm, hb => by
    unfold kAcc
    rw [Nat.testBit_or]
    by_cases c : m < j
    · rw [kAcc_has f lo c hb]; rfl
    · have : m = j := by omega
      subst this
      rw [hb, Nat.testBit_two_pow_self]
      simp
theorem kindK_can (f : Fl) (h : Hr) {w : Int} (hw : h.lo ≤ w ∧ w ≤ h.hi) {th : Bool} (h1 : th = true → h.th ≠ 0) (h2 : th = false → h.th ≠ 2) : (kindsN f h).testBit (kindK f w th) = true := by
  unfold kindsN
  rw [Nat.testBit_or, Bool.or_eq_true]
  cases th with
  | true =>
    right
    have : kindK f w true = 2 := if_pos (.inl rfl)
    rw [this, if_neg (h1 rfl)]
    rfl
  | false =>
    left
    rw [if_neg (h2 rfl)]
    refine kAcc_has f h.lo (m := (w - h.lo).toNat) (by omega) ?_
    rw [show h.lo + (((w - h.lo).toNat : Nat) : Int) = w by omega]
    unfold kBit kindK
    by_cases g : w ≥ f.high
    · rw [if_pos g, if_pos (.inr g)]
    · have g' : ¬ (false = true ∨ w ≥ f.high) := fun e => e.elim (fun e => by cases e) g
      rw [if_neg g, if_neg g']
      split <;> rfl
def Rk (f : Fl) (K : List Nat) : Prop := ∀ (i k : Nat), K[i]? = some k → k < 3 ∧ (Kf f i).testBit k = true
theorem Rk_nil (f : Fl) : Rk f [] := fun i k h => by simp at h
theorem Rk_snoc {f : Fl} {K : List Nat} (hK : Rk f K) {h : Hr} (hg : f.hs[K.length]? = some h) {w : Int} (hw : h.lo ≤ w ∧ w ≤ h.hi) {th : Bool} (h1 : th = true → h.th ≠ 0) (h2 : th = false → h.th ≠ 2) : Rk f (K ++ [kindK f w th]) := by
  intro i k hi
  by_cases c : i < K.length
  · rw [List.getElem?_append_left c] at hi
    exact hK i k hi
  · have hl := (List.getElem?_eq_some_iff.1 hi).1
    rw [List.length_append, List.length_singleton] at hl
    have : i = K.length := by omega
    subst this
    simp at hi
    subst hi
    refine ⟨kindK_lt _ _ _, ?_⟩
    unfold Kf
    rw [hg]
    exact kindK_can f h hw h1 h2
theorem Rk_rows {f : Fl} {K : List Nat} (hK : Rk f K) (hl : K.length = f.hs.length) : K ∈ rows f := by
  rw [kls_mem]
  refine ⟨hl, fun i k hi => ?_⟩
  rw [kset_mem, Nat.zero_add]
  exact hK i k hi
abbrev seenU (f : Fl) (K : List Nat) : List Sn := f.ss.map fun s => ⟨s.h, upAt f K s.h.toNat⟩
abbrev trueF (f : Fl) (K : List Nat) : Fl := withS f (seenU f K)
theorem trueF_ok {f : Fl} (hf : f.OK) {K : List Nat} (hl : K ∈ rows f) : (trueF f K).OK ∧ K ∈ truths (trueF f K) := by
  constructor
  · refine withS_OK hf (by simp only [List.length_map]; exact hf.ns) ?_
    intro s hs
    obtain ⟨t, ht, rfl⟩ := List.mem_map.1 hs
    exact hf.ss t ht
  · rw [truths_withS, List.mem_filter]
    refine ⟨hl, ?_⟩
    unfold right
    rw [List.all_eq_true]
    intro s hs
    obtain ⟨t, ht, rfl⟩ := List.mem_map.1 hs
    simp
theorem trueF_up {f : Fl} (hf : f.OK) {K : List Nat} (hl : K ∈ rows f) : ∃ a b : Nat, specUp (trueF f K) = ((a : Int), (b : Int), 0) ∧ a < 512 ∧ b < 512 ∧ ∀ i < f.hs.length, (a.testBit i = true → upAt f K i = true) ∧ (upAt f K i = true → b.testBit i = true) := by
  obtain ⟨hx, hxl⟩ := trueF_ok hf hl
  have hok := (Fl.ok_iff _).2 hx
  have hT : noT (trueF f K) = false := by
    unfold noT
    cases h : truths (trueF f K) with
    | nil => rw [h] at hxl; cases hxl
    | cons _ _ => rfl
  have hn := hf.nh
  have hp2 : 2 ^ f.hs.length ≤ 512 := Nat.pow_le_pow_right (n := 2) (by decide) hn
  refine ⟨maskOf (sure (trueF f K)) f.hs.length, maskOf (perh (trueF f K)) f.hs.length, ?_, ?_, ?_, fun i hi => ⟨fun h => ?_, fun h => ?_⟩⟩
  · simp only [specUp, hok, hT]; rfl
  · exact Nat.lt_of_lt_of_le (maskOf_lt _ _) hp2
  · exact Nat.lt_of_lt_of_le (maskOf_lt _ _) hp2
  · rw [maskOf_bit, Bool.and_eq_true] at h
    have h2 := h.2
    unfold sure at h2
    rw [List.all_eq_true] at h2
    exact h2 K hxl
  · rw [maskOf_bit, Bool.and_eq_true]
    refine ⟨by simp; omega, ?_⟩
    unfold perh
    rw [List.any_eq_true]
    exact ⟨K, hxl, h⟩
end Go.Proofs.YtbhbbjngndmnmaaGreatDoor.F
namespace Go.Proofs.YtbhbbjngndmnmaaGreatDoor.B
open Go Go.Ab
theorem divmod_of {W q r : Nat} (h : r < W) : (W * q + r) % W = r ∧ (W * q + r) / W = q := by
  constructor
  · rw [Nat.mul_add_mod, Nat.mod_eq_of_lt h]
  · rw [Nat.mul_add_div (by omega), Nat.div_eq_of_lt h]; omega
theorem dist_left {b : Bo} {p : Nat} (h : 0 < p % b.W) (hW : 1 ≤ b.W) : dist b p (p - 1) ≤ 1 := by
  have e := Nat.div_add_mod p b.W
  have hm := Nat.mod_lt p (show 0 < b.W by omega)
  obtain ⟨h1, h2⟩ := divmod_of (W := b.W) (q := p / b.W) (r := p % b.W - 1) (by omega)
  have e2 : b.W * (p / b.W) + (p % b.W - 1) = p - 1 := by omega
  rw [e2] at h1 h2
  unfold dist
  rw [h1, h2]
  omega
theorem dist_nearer {b : Bo} {p : Nat} (h : b.W ≤ p) (hW : 1 ≤ b.W) : dist b p (p - b.W) ≤ 1 := by
  have h1 : (p - b.W) % b.W = p % b.W := (Nat.mod_eq_sub_mod h).symm
  have h2 : p / b.W = (p - b.W) / b.W + 1 := Nat.div_eq_sub_div (by omega) h
  unfold dist
  rw [h1, h2]
  omega
theorem dist_farther {b : Bo} {p : Nat} (hW : 1 ≤ b.W) : dist b p (p + b.W) ≤ 1 := by
  have h1 : (p + b.W) % b.W = p % b.W := Nat.add_mod_right _ _
  have h2 : (p + b.W) / b.W = p / b.W + 1 := Nat.add_div_right _ (by omega)
  unfold dist
  rw [h1, h2]
  omega
def obs (b : Bo) (p : Nat) (m : Int) : Si := ⟨m, (p % b.W : Nat), min (b.wide - 1) (((p % b.W : Nat) : Int) + 1), max 0 (((p / b.W : Nat) : Int) - 1), (p / b.W : Nat)⟩
theorem row_lt' {b : Bo} (hb : b.OK) {p : Nat} (hp : p < b.N) : p % b.W < b.W ∧ p / b.W < b.D := by
  have hW := hb.W
  refine ⟨Nat.mod_lt _ (by omega), ?_⟩
  unfold Bo.N at hp
  exact Nat.div_lt_of_lt_mul hp
theorem obs_spec {b : Bo} (hb : b.OK) {p : Nat} (hp : p < b.N) {m : Int} (hm : 0 ≤ m ∧ m ≤ b.last) : (obs b p m).OK b ∧ inB b (obs b p m) p = true := by
  obtain ⟨h1, h2⟩ := row_lt' hb hp
  have hW := hb.W
  have hD := hb.D
  unfold obs
  constructor
  · refine ⟨hm, ?_, ?_⟩
    · simp only
      generalize p % b.W = C at *
      omega
    · simp only
      generalize p / b.W = R at *
      omega
  · unfold inB
    simp only [Bool.and_eq_true, decide_eq_true_eq]
    generalize p % b.W = C at *
    generalize p / b.W = R at *
    omega
theorem saw_map {b b' : Bo} {g : Si → Si} (hg : ∀ s, (g s).minute = s.minute) : ∀ {l : List Si} {m : Int}, (∀ s ∈ l, (g s).OK b') → sawB b m l = true → sawB b' m (l.map g) = true
  | [], _, _, _ => rfl
  | x :: l, m, h, hs => by
    unfold sawB at hs
    rw [Bool.and_eq_true, okB_iff] at hs
    have hx := h x (by simp)
    show (Si.okB b' m (g x) && sawB b' (g x).minute (l.map g)) = true
    rw [Bool.and_eq_true, okB_iff, hg]
    refine ⟨⟨⟨hs.1.1.1, by have := hx.min; rw [hg] at this; exact this.2⟩, hx.col, hx.row⟩, saw_map hg (fun s hs => h s (by simp [hs])) hs.2⟩
abbrev seenC (b : Bo) (l : List Si) (cl : List Nat) : List Si := l.map fun s => obs b (cl.getD s.minute.toNat 0) s.minute
abbrev trueB (b : Bo) (l : List Si) (cl : List Nat) : Bo := { b with seen := [seenC b l cl] }
theorem trueB_rows {b : Bo} (hb : b.OK) {l : List Si} (hl : l ∈ b.seen) {cl : List Nat} (hlen : cl.length = b.L + 1) (hN : ∀ p ∈ cl, p < b.N) (hn : ∀ m < b.L, dist b (cl.getD m 0) (cl.getD (m + 1) 0) ≤ b.speed.toNat) :
    (trueB b l cl).OK ∧ ∀ m ≤ b.L, ∃ lo hi : Nat, specRows (trueB b l cl) 0 (m : Nat) = (((lo : Int), (hi : Int)), 0) ∧ lo ≤ cl.getD m 0 / b.W ∧ cl.getD m 0 / b.W ≤ hi ∧ hi < 64 := by
  have hat : ∀ m ≤ b.L, cl.getD m 0 < b.N := fun m hm => by
    rw [List.getD_eq_getElem?_getD, List.getElem?_eq_getElem (by omega)]
    exact hN _ (List.getElem_mem _)
  have hL := hb.L
  have hsi : ∀ s ∈ l, (obs b (cl.getD s.minute.toNat 0) s.minute).OK b ∧ inB b (obs b (cl.getD s.minute.toNat 0) s.minute) (cl.getD s.minute.toNat 0) = true := fun s hs => by
    have := (hb.si hl hs).min
    exact obs_spec hb (hat _ (by omega)) this
  have hx : (trueB b l cl).OK := by
    refine ⟨hb.wide, hb.deep, hb.speed, hb.last, by simp, fun l' hl' => ?_, fun l' hl' => ?_⟩
    · rw [List.mem_singleton] at hl'
      subst hl'
      rw [List.length_map]
      exact hb.lens l hl
    · rw [List.mem_singleton] at hl'
      subst hl'
      refine saw_map (b := b) (g := fun s => obs b (cl.getD s.minute.toNat 0) s.minute) (fun s => rfl) (fun s hs => ?_) (hb.saw l hl)
      obtain ⟨h1, h2, h3⟩ := (hsi s hs).1
      exact ⟨h1, h2, h3⟩
  refine ⟨hx, fun m hm => ?_⟩
  have htr : TrQ (trueB b l cl) (plainQ (trueB b l cl) 0) (fun m => cl.getD m 0) := by
    refine ⟨fun j _ hj => ⟨hat j hj, Nat.zero_le _, fun s hs e => ?_⟩, fun j _ hj => hn j hj⟩
    obtain ⟨i, _, _, hi⟩ := kept_mem.1 hs
    have hs' : s ∈ seenC b l cl := List.mem_of_getElem? hi
    obtain ⟨t, ht, rfl⟩ := List.mem_map.1 hs'
    have e' : t.minute = j := e
    have := (hsi t ht).2
    rw [e', Int.toNat_natCast] at this
    rw [e', Int.toNat_natCast]
    exact this
  have hc : canQ (trueB b l cl) (plainQ (trueB b l cl) 0) = true := (canQ_iff hx _).2 ⟨_, htr⟩
  have hm' : m ≤ (trueB b l cl).L := hm
  have hbit := (canAt_bit hx (plainQ (trueB b l cl) 0) hm' (cl.getD m 0)).2 ⟨_, htr, rfl⟩
  have hne : canAt (trueB b l cl) (plainQ (trueB b l cl) 0) m ≠ 0 := (ne0_iff _).2 ⟨_, hbit⟩
  have hlt := canAt_lt hx (plainQ (trueB b l cl) 0) m
  have hlo := (span_lo (b := trueB b l cl) hlt hne).2 _ hbit
  have hhi := (span_hi (b := trueB b l cl) hne).2 _ hbit
  obtain ⟨j, hj, ej⟩ := (span_hi (b := trueB b l cl) hne).1
  have hj48 : j < 48 := by
    apply Classical.byContradiction
    intro c
    have : 2 ^ j ≤ canAt (trueB b l cl) (plainQ (trueB b l cl) 0) m := Nat.ge_two_pow_of_testBit hj
    have h2 : 2 ^ 48 ≤ 2 ^ j := Nat.pow_le_pow_right (by decide) (by omega)
    have h3 : B48 = 2 ^ 48 := rfl
    omega
  refine ⟨_, _, ?_, hlo, hhi, ?_⟩
  · have h1 : (trueB b l cl).isBoat 0 = true := isBoat_iff.2 ⟨by omega, by simp⟩
    have h2 : (trueB b l cl).isMinute (m : Nat) = true := isMinute_iff.2 ⟨by omega, by show ((m : Nat) : Int) ≤ b.last; omega⟩
    unfold specRows
    rw [(Bo.ok_iff _).2 hx, h1, h2, Int.toNat_natCast, show (0 : Int).toNat = 0 from rfl, hc]
    rfl
  · have := Nat.div_le_self j (trueB b l cl).W
    omega
structure Crs (b : Bo) (cl : List Nat) (m p : Nat) : Prop where
  len : cl.length = m + 1
  lt : ∀ q ∈ cl, q < b.N
  near : ∀ i < m, dist b (cl.getD i 0) (cl.getD (i + 1) 0) ≤ b.speed.toNat
  last : cl.getD m 0 = p
theorem Crs.one {b : Bo} {p : Nat} (h : p < b.N) : Crs b [p] 0 p := ⟨rfl, by simpa using h, fun i hi => by omega, rfl⟩
theorem Crs.snoc {b : Bo} {cl : List Nat} {m p q : Nat} (h : Crs b cl m p) (hq : q < b.N) (hd : dist b p q ≤ b.speed.toNat) : Crs b (cl ++ [q]) (m + 1) q := by
  have hl := h.len
  have e : ∀ i ≤ m, (cl ++ [q]).getD i 0 = cl.getD i 0 := fun i hi => by
    rw [List.getD_eq_getElem?_getD, List.getD_eq_getElem?_getD, List.getElem?_append_left (by omega)]
  have e2 : (cl ++ [q]).getD (m + 1) 0 = q := by
    rw [List.getD_eq_getElem?_getD, List.getElem?_append_right (by omega), hl]
    simp
  refine ⟨by simp [hl], fun x hx => ?_, fun i hi => ?_, e2⟩
  · rcases List.mem_append.1 hx with hx | hx
    · exact h.lt x hx
    · rw [List.mem_singleton] at hx; subst hx; exact hq
  · by_cases c : i < m
    · rw [e i (by omega), e (i + 1) (by omega)]; exact h.near i c
    · have : i = m := by omega
      subst this
      rw [e i (Nat.le_refl _), e2, h.last]; exact hd
end Go.Proofs.YtbhbbjngndmnmaaGreatDoor.B
namespace Go.Proofs.YtbhbbjngndmnmaaGreatDoor.S
open Go Go.Ab
def Wn (ws : List Sp) (A : List Int) : Prop := ∀ (i : Nat) (a : Int), A[i]? = some a → ∃ x, ws[i]? = some x ∧ x.1 ≤ a ∧ a ≤ x.2
theorem Wn_nil (ws : List Sp) : Wn ws [] := fun i a h => by simp at h
theorem Wn_snoc {ws : List Sp} {A : List Int} (hA : Wn ws A) {x : Sp} (hg : ws[A.length]? = some x) {a : Int} (ha : x.1 ≤ a ∧ a ≤ x.2) : Wn ws (A ++ [a]) := by
  intro i k hi
  by_cases c : i < A.length
  · rw [List.getElem?_append_left c] at hi
    exact hA i k hi
  · have hl := (List.getElem?_eq_some_iff.1 hi).1
    rw [List.length_append, List.length_singleton] at hl
    have : i = A.length := by omega
    subst this
    simp at hi
    subst hi
    exact ⟨x, hg, ha⟩
theorem hoursP_mem' {x y : Sp} {w v : Int} (hw : x.1 ≤ w ∧ w ≤ x.2) (hv : y.1 ≤ v ∧ v ≤ y.2) : (w, v) ∈ hoursP x y := by
  have hi : (w - x.1).toNat < numS x := by unfold numS; omega
  have hj : (v - y.1).toNat < numS y := by unfold numS; omega
  have := List.mem_of_getElem? (hoursP_at x y hi hj)
  rw [show x.1 + (((w - x.1).toNat : Nat) : Int) = w by omega, show y.1 + (((v - y.1).toNat : Nat) : Int) = v by omega] at this
  exact this
theorem Wn_Tr {s : Su} {A B : List Int} (hA : Wn s.water A) (hB : Wn s.waves B) : Tr s (A.zip B) := by
  intro i o ho
  rw [List.getElem?_zip_eq_some] at ho
  obtain ⟨x, hx, h1⟩ := hA i _ ho.1
  obtain ⟨y, hy, h2⟩ := hB i _ ho.2
  rw [hoursL_eq hx hy]
  exact hoursP_mem' h1 h2
theorem Tr_take' {s : Su} {os : List Hour} (h : Tr s os) (j : Nat) : Tr s (os.take j) := fun i o ho => by
  by_cases c : i < j
  · rw [List.getElem?_take_of_lt c] at ho; exact h i o ho
  · rw [List.getElem?_take_eq_none (by omega)] at ho; cases ho
abbrev floT (s : Su) (h : Hu) (A B : List Int) (i : Nat) : Bool := Flo s h ((A.zip B).take i) (A.getD i 0, B.getD i 0)
theorem flo_law {s : Su} (hs : s.OK) {h : Hu} (hh : h ∈ s.huts) {A B : List Int} (hA : Wn s.water A) (hB : Wn s.waves B) (la : A.length = s.water.length) (lb : B.length = s.water.length) {i : Nat} (hi : i < s.water.length) :
    ((sureM s h).testBit i = true → floT s h A B i = true) ∧ (floT s h A B i = true → (canM s h).testBit i = true) := by
  have hr := hs.huts h hh
  have hro := hs.rows
  have hr6 : 0 ≤ h.row ∧ h.row < 6 := by unfold Hu.OK at hr; omega
  have hT := Wn_Tr hA hB
  have ga : A[i]? = some (A.getD i 0) := by rw [List.getD_eq_getElem?_getD, List.getElem?_eq_getElem (by omega)]; rfl
  have gb : B[i]? = some (B.getD i 0) := by rw [List.getD_eq_getElem?_getD, List.getElem?_eq_getElem (by omega)]; rfl
  have hz : (A.zip B)[i]? = some (A.getD i 0, B.getD i 0) := List.getElem?_zip_eq_some.2 ⟨ga, gb⟩
  have e : (A.zip B).take i ++ [(A.getD i 0, B.getD i 0)] = (A.zip B).take (i + 1) := by rw [List.take_add_one, hz]; rfl
  have h1 : ((A.zip B).take i).length = i := by rw [List.length_take, List.length_zip]; omega
  have h2 : Tr s ((A.zip B).take i ++ [(A.getD i 0, B.getD i 0)]) := by rw [e]; exact Tr_take' hT _
  constructor
  · intro h
    rw [maskOf_bit, Bool.and_eq_true] at h
    exact (sureB_iff s _ hr6 i).1 h.2 _ _ h1 h2
  · intro h
    rw [maskOf_bit, Bool.and_eq_true]
    exact ⟨by simp; omega, (canB_iff s _ hr6 i).2 ⟨_, _, h1, h2, h⟩⟩
theorem Wn_bnd {ws : List Sp} {A : List Int} (hA : Wn ws A) {high : Int} (hw : ∀ x ∈ ws, Near x high) : ∀ (i : Nat) (a : Int), A[i]? = some a → 0 ≤ a ∧ a ≤ high := fun i a h => by
  obtain ⟨x, hx, h1⟩ := hA i a h
  have := hw x (List.mem_of_getElem? hx)
  unfold Near at this
  omega
theorem mask_lt9 {s : Su} (hs : s.OK) (p : Nat → Bool) : maskOf p s.water.length < 512 :=
  Nat.lt_of_lt_of_le (maskOf_lt _ _) (show 2 ^ s.water.length ≤ 2 ^ 9 from Nat.pow_le_pow_right (by decide) (by have := hs.nw; omega))
abbrev rowT (s : Su) (h : Hu) (A B : List Int) (i : Nat) : Int := ((runP s h ((A.zip B).take i) : Nat) : Int) - 1
set_option maxRecDepth 8000 in
set_option maxHeartbeats 4000000 in
theorem Row_ok (s : Su) (hs : s.OK) {n : Nat} {h : Hu} (hg : s.huts[n]? = some h) {A B : List Int} (hA : Wn s.water A) (hB : Wn s.waves B) (la : A.length = s.water.length) (lb : B.length = s.water.length) {i : Nat} (hi : i ≤ s.water.length) :
    ACall Tryz.prog 15 [.t (.agg [tI A, tI B]), .t (.agg (su5 s)), .t (vi n), .t (vi i)] [] (ret (vi (rowT s h A B i))) := by
  refine ACall.walk k15 ?_
  have hh := hs.huts h (List.mem_of_getElem? hg)
  have hro := hs.rows
  have hnw := hs.nw
  have hnh := hs.nh
  have hn := (List.getElem?_eq_some_iff.1 hg).1
  have h0 : rowT s h A B 0 = h.row := by
    unfold Hu.OK at hh
    unfold rowT runP
    rw [List.take_zero, List.foldl_nil]
    omega
  have hrl : ∀ j, -1 ≤ rowT s h A B j ∧ rowT s h A B j ≤ 5 := fun j => by
    unfold Hu.OK at hh
    have := runP_le s h ((A.zip B).take j)
    unfold rowT
    omega
  have hst : ∀ j < s.water.length, rowT s h A B (j + 1) = nxI s.step h (rowT s h A B j) (A.getD j 0) (B.getD j 0) := fun j hj => by
    have ga : A[j]? = some (A.getD j 0) := by rw [List.getD_eq_getElem?_getD, List.getElem?_eq_getElem (by omega)]; rfl
    have gb : B[j]? = some (B.getD j 0) := by rw [List.getD_eq_getElem?_getD, List.getElem?_eq_getElem (by omega)]; rfl
    have hz : (A.zip B)[j]? = some (A.getD j 0, B.getD j 0) := List.getElem?_zip_eq_some.2 ⟨ga, gb⟩
    rw [nxI_K (hrl j).1]
    unfold rowT
    rw [List.take_add_one, hz, Option.toList_some, runP_snoc, show (((runP s h ((A.zip B).take j) : Nat) : Int) - 1 + 1).toNat = runP s h ((A.zip B).take j) by omega]
  have hba := Wn_bnd hA hs.water
  have hbb := Wn_bnd hB hs.waves
  generalize rowT s h A B = r at *
  unfold c15
  obtain ⟨hf, hbr, hrw⟩ := h
  simp only at h0
  simp only [su5, go_sem, Nat.reduceEqDiff, Nat.reduceAdd, List.getElem?_map, hg, Option.map_some, tHu]
  refine awpL_loopK i (fun j st => st = { env := [(10, .t (vi j)), (2, .t (vi n)), (3, .t (vi i)), (4, .ptr 0 0), (5, .ptr 1 0), (9, .t (vi (r j)))], σ := [.cells [.t (tI A), .t (tI B)], .cells ((su5 s).map .t)] }) ⟨_, Sub.gc [0, 1] [10, 2, 3, 4, 5, 9] rfl rfl, by rw [h0]; rfl⟩ ?_
  rintro j st hj rfl
  have hwj : IntKind.i64.wrap ((j : Int) + 1) = ((j + 1 : Nat) : Int) := by rw [wrap_id (by omega) (by omega)]; omega
  cases g : decide ((j : Int) < i)
  · have hji : j = i := by have := of_decide_eq_false g; omega
    subst hji
    simp only [su5, go_sem, Nat.reduceEqDiff, g]
    exact finL_ret [] ⟨rfl, rfl, rfl, rfl, _, rfl, res_mk rfl⟩
  · have hji : j < i := by have := of_decide_eq_true g; omega
    have ga : A[j]? = some (A.getD j 0) := by rw [List.getD_eq_getElem?_getD, List.getElem?_eq_getElem (by omega)]; rfl
    have gb : B[j]? = some (B.getD j 0) := by rw [List.getD_eq_getElem?_getD, List.getElem?_eq_getElem (by omega)]; rfl
    have q := rNext_ok s hs hg (row := r j) (hba j _ ga) (hbb j _ gb) (hrl j)
    rw [← hst j (by omega)] at q
    generalize A.getD j 0 = a at *
    generalize B.getD j 0 = c at *
    simp only [su5] at q
    simp only [su5, go_sem, Nat.reduceEqDiff, Nat.reduceAdd, Nat.reduceLeDiff, g, List.getElem?_map, ga, gb, Option.map_some]
    refine ACallL.quiet1 q rfl rfl rfl ?_
    simp only [su5, go_sem, Nat.reduceEqDiff, Nat.reduceAdd, Nat.reduceLeDiff, List.getElem?_map, ga, gb, Option.map_some, hwj]
    exact ⟨hji, _, Sub.gc [0, 1] [10, 2, 3, 4, 5, 9] rfl rfl, rfl⟩
end Go.Proofs.YtbhbbjngndmnmaaGreatDoor.S
