/- Proved here: laws that the statements need (WyE, WyF). No conditions but those that each law states. -/
import Derived.Test.YtnmmhkkmejbckaaGreatDoorYQ
import Derived.Test.YtnmmhkkmejbckaaGreatDoorYO
import Derived.Test.YtnmmhkkmejbckaaGreatDoorYD

set_option linter.unusedSimpArgs false
set_option linter.unusedVariables false

/- The document's Count, Can, Sure. -/
namespace Go.Proofs.YtnmmhkkmejbckaaGreatDoor
open Go Go.Ab

def toldE (w : Wa) (v : Bool) : Int := if w.ok then (if v then (if waysN w.fits = 0 then 10 else 0) else 2) else 1
theorem truR_len (w : Wa) : (truR w).length = waysN w.fits := by unfold truR waysN; simp
theorem rtold_ok (w : Wa) (v : Bool) (hL : Lens w) : ACall Tryz.prog 57 [.t (tWa w), .t (vb v)] [] (res (.ret (.tup [.t (if toldE w v = 0 then .slice 1 ((truR w).map tI') else .lit (.slice none 0 0)), .t (vi (toldE w v))]))) := by
  refine ACall.walk k57 ?_
  have q1 := rcheck_ok w v hL
  have q2 := fun hw : w.OK => rTruths_ok w hw
  unfold c57
  unfold tWa wa2 at q1 q2 ⊢
  simp only [go_sem, Nat.reduceEqDiff, Nat.reduceAdd]
  refine ACallL.quiet1 q1 rfl rfl rfl ?_
  by_cases hE : chkI w v = 0
  rotate_left
  · have hE2 : (chkI w v != 0) = true := bne_iff_ne.2 hE
    have ht : toldE w v = chkI w v := by
      unfold toldE chkI at *
      cases hok : w.ok
      · rfl
      · cases v
        · rfl
        · rw [hok] at hE; exact absurd rfl hE
    have hz : (chkI w v = 0) = False := eq_false hE
    rw [ht, if_neg hE]
    generalize chkI w v = E at *
    simp only [go_sem, Nat.reduceEqDiff, hE2]
    exact finL_ret [] ⟨rfl, rfl, rfl, rfl, _, rfl, res_mk rfl⟩
  obtain ⟨hok, rfl⟩ := chk_good hE
  have hw := (w.ok_iff).1 hok
  have q2 := q2 hw
  have ht : toldE w true = if waysN w.fits = 0 then 10 else 0 := by unfold toldE; rw [hok]; rfl
  rw [hE, ht]
  have hlen := truR_len w
  rw [← hlen]
  generalize truR w = L at *
  simp only [go_sem, Nat.reduceEqDiff, Nat.reduceAdd, bne_self_eq_false]
  refine ACallL.fresh1 q2 rfl ?_
  by_cases hz : L.length = 0
  · have e : L = [] := List.eq_nil_of_length_eq_zero hz
    subst e
    rw [if_pos hz, if_neg (by decide)]
    simp only [go_sem, Nat.reduceEqDiff, beq_self_eq_true, List.map_nil, List.length_nil]
    exact finL_ret [] ⟨rfl, rfl, rfl, rfl, _, rfl, res_mk rfl⟩
  · have hz2 : ((L.length : Int) == 0) = false := beq_false_of_ne (by omega)
    rw [if_neg hz, if_pos rfl]
    simp only [go_sem, Nat.reduceEqDiff, List.length_map, hz2]
    exact finL_ret [] ⟨rfl, rfl, rfl, rfl, _, rfl, res_mk rfl⟩
theorem rCount_ok (w : Wa) (hL : Lens w) : ACall Tryz.prog 18 [.t (tWa w)] [] (res (oneE (specCount w).1 (specCount w).2)) := by
  refine ACall.walk k18 ?_
  have q1 := rcheck_ok w true hL
  have q2 := fun hw : w.OK => rTruths_ok w hw
  unfold c18
  unfold tWa wa2 at q1 q2 ⊢
  cases hok : w.ok
  · have hs : specCount w = (0, 1) := by unfold specCount; rw [hok]; rfl
    have hc : chkI w true = 1 := by unfold chkI; rw [hok]; rfl
    rw [hc] at q1
    rw [hs]
    simp only [go_sem, Nat.reduceEqDiff, Nat.reduceAdd]
    refine ACallL.quiet1 q1 rfl rfl rfl ?_
    simp only [go_sem, Nat.reduceEqDiff, Int.reduceBNe]
    exact finL_ret [] ⟨rfl, rfl, rfl, rfl, _, rfl, res_mk rfl⟩
  · have hc : chkI w true = 0 := by unfold chkI; rw [hok]; rfl
    have q2 := q2 ((w.ok_iff).1 hok)
    rw [hc] at q1
    rw [specCount_at hok, ← truR_len]
    generalize truR w = L at *
    simp only [go_sem, Nat.reduceEqDiff, Nat.reduceAdd]
    refine ACallL.quiet1 q1 rfl rfl rfl ?_
    simp only [go_sem, Nat.reduceEqDiff, Nat.reduceAdd, bne_self_eq_false]
    refine ACallL.fresh1 q2 rfl ?_
    simp only [go_sem, Nat.reduceEqDiff, List.length_map]
    exact finL_ret [] ⟨rfl, rfl, rfl, rfl, _, rfl, res_mk rfl⟩

/-! ### Rows of truths -/
def tTs (L : List (List Nat)) : List T := (L.map fun t => t.map cI).map tI'
theorem truR_tT (w : Wa) : (truR w).map tI' = tTs (truths w.fits) := rfl
theorem tTs_at {L : List (List Nat)} {j : Nat} {t : List Nat} (h : L[j]? = some t) : (tTs L)[j]? = some (.slice 1 ((t.map cI).map vi)) := by
  unfold tTs
  rw [List.getElem?_map, List.getElem?_map, h]; rfl
theorem tTs_len (L : List (List Nat)) : (tTs L).length = L.length := by unfold tTs; simp
theorem row_at {t : List Nat} {p x : Nat} (h : t[p]? = some x) : ((t.map cI).map vi)[p]? = some (vi (x : Int)) := by
  rw [List.getElem?_map, List.getElem?_map, h]; rfl
theorem whoN_snoc (p : Nat) (L : List (List Nat)) (t : List Nat) {x : Nat} (h : t[p]? = some x) : whoN p (L ++ [t]) = whoN p L ||| 2 ^ x := by
  rw [whoN_append]
  unfold whoN
  simp [h]
theorem whoN_lt {p : Nat} {L : List (List Nat)} (h : ∀ t ∈ L, ∀ x, t[p]? = some x → x < 6) : whoN p L < 64 := by
  refine Nat.lt_pow_two_of_testBit (n := 6) _ fun i hi => ?_
  cases hb : (whoN p L).testBit i
  · rfl
  · obtain ⟨t, h1, h2⟩ := (who_bit p i L).1 hb
    have := h t h1 i h2
    omega
/-- What is so of each truth. -/
theorem tru_at {w : Wa} (hw : w.OK) {j : Nat} {t : List Nat} (h : (truths w.fits)[j]? = some t) : t.length = w.fs.length ∧ ∀ p, p < w.fs.length → ∃ x, t[p]? = some x ∧ x < 5 := by
  have hlf : w.fits.length = w.fs.length := by unfold Wa.fits; simp
  obtain ⟨a, -, c⟩ := truths_mem.1 (List.mem_of_getElem? h)
  refine ⟨by omega, fun p hp => ?_⟩
  have e : t[p]? = some (t[p]'(by omega)) := List.getElem?_eq_getElem (by omega)
  exact ⟨_, e, (c p _ e).2⟩
set_option maxRecDepth 8000 in
set_option maxHeartbeats 4000000 in
theorem rCan_ok (w : Wa) (i : Int) (hL : Lens w) : ACall Tryz.prog 20 [.t (tWa w), .t (vi i)] [] (res (oneE (specCan w i).1 (specCan w i).2)) := by
  refine ACall.walk k20 ?_
  have q1 := rFind_ok w i hL
  have q2 := rtold_ok w (w.isF i) hL
  unfold c20
  unfold tWa wa2 at q1 q2 ⊢
  simp only [go_sem, Nat.reduceEqDiff, Nat.reduceAdd]
  refine ACallL.quiet1 q1 rfl rfl rfl ?_
  simp only [go_sem, Nat.reduceEqDiff, Nat.reduceAdd]
  refine ACallL.fresh1 q2 rfl ?_
  have hsp : toldE w (w.isF i) ≠ 0 → specCan w i = (0, toldE w (w.isF i)) := by
    intro h
    unfold toldE specCan at *
    cases hok : w.ok
    · rfl
    · cases hi : w.isF i
      · rfl
      · by_cases hz : waysN w.fits = 0
        · simp [hz]
        · rw [hok, hi] at h; simp [hz] at h
  by_cases hE : toldE w (w.isF i) = 0
  rotate_left
  · have hE2 : (toldE w (w.isF i) != 0) = true := bne_iff_ne.2 hE
    rw [hsp hE, if_neg hE]
    generalize toldE w (w.isF i) = E at *
    simp only [go_sem, Nat.reduceEqDiff, Nat.reduceAdd, hE2]
    exact finL_ret [] ⟨rfl, rfl, rfl, rfl, _, rfl, res_mk rfl⟩
  have hgood : w.ok = true ∧ w.isF i = true ∧ waysN w.fits ≠ 0 := by
    unfold toldE at hE
    cases hok : w.ok
    · rw [hok] at hE; simp at hE
    · cases hi : w.isF i
      · rw [hok, hi] at hE; simp at hE
      · refine ⟨rfl, rfl, fun hz => ?_⟩
        rw [hok, hi] at hE; simp [hz] at hE
  obtain ⟨hok, hi, hz⟩ := hgood
  obtain ⟨n, rfl, hn⟩ := isF_nat hi
  have hw := (w.ok_iff).1 hok
  have hn4 := hw.nf
  have hs : specCan w n = (((whoN n (truths w.fits) : Nat) : Int), 0) := by rw [specCan_at hok hn, if_neg hz, whose_get _ (by omega)]
  have hTA := fun {j : Nat} {t : List Nat} => tru_at hw (j := j) (t := t)
  have hTl : (truths w.fits).length ≤ 625 := ways_bd (by unfold Wa.fits; simpa using hn4)
  rw [hs, hE, truR_tT, if_pos rfl]
  generalize truths w.fits = L at *
  have hn0 : ((n : Int) < 0) = False := eq_false (by omega)
  simp only [go_sem, Nat.reduceEqDiff, Nat.reduceAdd, bne_self_eq_false, if_true]
  refine awpL_loopK L.length (fun j s => s = { env := [(9, .t (vi j)), (1, .t (vi n)), (6, .t (.slice 1 (tTs L))), (8, .t (vi (whoN n (L.take j) : Nat)))], σ := [] })
    ⟨_, Sub.gc [] [9, 1, 6, 8] rfl rfl, St.gc_mk rfl rfl rfl rfl⟩ ?_
  rintro j s hj rfl
  have hj0 : ((j : Int) < 0) = False := eq_false (by omega)
  have hwj : IntKind.i64.wrap ((j : Int) + 1) = ((j + 1 : Nat) : Int) := by rw [wrap_id (by omega) (by omega)]; omega
  cases g : decide ((j : Int) < L.length)
  · have hje : j = L.length := by have := of_decide_eq_false g; omega
    rw [hje] at g ⊢
    rw [List.take_length]
    simp only [go_sem, Nat.reduceEqDiff, tTs_len, g]
    exact finL_ret [] ⟨rfl, rfl, rfl, rfl, _, rfl, res_mk rfl⟩
  have hjl : j < L.length := by have := of_decide_eq_true g; omega
  have hx : L[j]? = some L[j] := List.getElem?_eq_getElem hjl
  obtain ⟨-, hp⟩ := hTA hx
  obtain ⟨x, hx1, hx2⟩ := hp n hn
  have tx : L.take (j + 1) = L.take j ++ [L[j]] := by rw [List.take_add_one, hx]; rfl
  rw [tx, whoN_snoc n _ _ hx1]
  have hb64 : whoN n (L.take j) < 64 := whoN_lt fun t ht y hy => by
    obtain ⟨k, hk⟩ := List.getElem?_of_mem (List.mem_of_mem_take ht)
    obtain ⟨-, hp⟩ := hTA hk
    obtain ⟨z, hz1, hz2⟩ := hp n hn
    rw [hy] at hz1
    cases hz1
    omega
  have e1 := tTs_at hx
  have e2 := row_at hx1
  clear tx
  generalize L[j] = t at *
  generalize whoN n (L.take j) = M at *
  have qH := rHas_ok M x (by omega) (by omega)
  have qP := power_ok x (by omega)
  have hp5 : 2 ^ x ≤ 2 ^ 5 := Nat.pow_le_pow_right (by omega) (by omega)
  simp only [go_sem, Nat.reduceEqDiff, tTs_len, g, e1, e2]
  refine ACallL.quiet1 qH rfl rfl rfl ?_
  cases hb : M.testBit x
  · have hadd := or_add M hb64 x (by omega) hb
    have hw2 : IntKind.i64.wrap ((M : Int) + ((2 ^ x : Nat) : Int)) = ((M ||| 2 ^ x : Nat) : Int) := by rw [← hadd, wrap_id (by omega) (by omega)]; omega
    simp only [go_sem, Nat.reduceEqDiff, Bool.not_false, e1, e2]
    refine ACallL.quiet1 qP rfl rfl rfl ?_
    simp only [go_sem, Nat.reduceEqDiff, hw2, hwj]
    exact ⟨hjl, _, Sub.gc [] [9, 1, 6, 8] rfl rfl, St.gc_mk rfl rfl rfl rfl⟩
  · have hsame : M ||| 2 ^ x = M := by
      apply Nat.eq_of_testBit_eq
      intro b
      rw [Nat.testBit_or, Nat.testBit_two_pow]
      by_cases e : x = b
      · subst e; rw [hb]; rfl
      · rw [decide_eq_false e, Bool.or_false]
    rw [hsame]
    simp only [go_sem, Nat.reduceEqDiff, Bool.not_true, hwj]
    exact ⟨hjl, _, Sub.gc [] [9, 1, 6, 8] rfl rfl, St.gc_mk rfl rfl rfl rfl⟩

/-! ### Whose each find surely is -/
def sameI (p x0 : Nat) (L : List (List Nat)) : Int := if L.all (fun t => decide (t.getD p 9 = x0)) then (x0 : Int) else -1
theorem sole_same {p : Nat} {L : List (List Nat)} {t0 : List Nat} (h0 : L[0]? = some t0) {x0 : Nat} (hx0 : t0[p]? = some x0) (h6 : ∀ t ∈ L, ∃ x, t[p]? = some x ∧ x < 6) : soleI (whoN p L) = sameI p x0 L := by
  have hlt : whoN p L < 64 := whoN_lt fun t ht x hx => by
    obtain ⟨y, h1, h2⟩ := h6 t ht
    rw [hx] at h1
    cases h1
    exact h2
  have hm := List.mem_of_getElem? h0
  unfold sameI
  by_cases ha : L.all (fun t => decide (t.getD p 9 = x0)) = true
  · rw [if_pos ha]
    rw [List.all_eq_true] at ha
    have e : whoN p L = 2 ^ x0 := by
      apply Nat.eq_of_testBit_eq
      intro b
      rw [Bool.eq_iff_iff, who_bit, Nat.testBit_two_pow, decide_eq_true_eq]
      constructor
      · rintro ⟨t, h1, h2⟩
        have := of_decide_eq_true (ha t h1)
        rw [List.getD_eq_getElem?_getD, h2] at this
        exact this.symm
      · rintro rfl
        exact ⟨t0, hm, hx0⟩
    rw [e] at hlt ⊢
    have hx6 : x0 < 6 := (Nat.pow_lt_pow_iff_right (by omega : 1 < 2)).1 (show 2 ^ x0 < 2 ^ 6 from hlt)
    have hsz : ∀ y : Nat, y < 6 → size (2 ^ y) = 1 := by decide +kernel
    unfold soleI
    rw [if_pos (hsz x0 hx6), Nat.log2_two_pow]
  · rw [if_neg ha]
    unfold soleI
    split
    · rename_i h1
      exfalso
      obtain ⟨e, -⟩ := size_one _ hlt h1
      apply ha
      rw [List.all_eq_true]
      intro t ht
      obtain ⟨x, hx, -⟩ := h6 t ht
      have b1 := (who_bit p x L).2 ⟨t, ht, hx⟩
      have b2 := (who_bit p x0 L).2 ⟨t0, hm, hx0⟩
      rw [e, Nat.testBit_two_pow, decide_eq_true_eq] at b1 b2
      rw [List.getD_eq_getElem?_getD, hx]
      exact decide_eq_true (b1.symm.trans b2)
    · rfl
theorem sameI_snoc (p x0 : Nat) (L : List (List Nat)) {t : List Nat} {x : Nat} (hx : t[p]? = some x) : sameI p x0 (L ++ [t]) = if sameI p x0 L = (x : Int) then sameI p x0 L else -1 := by
  unfold sameI
  rw [List.all_append]
  have e : [t].all (fun t => decide (t.getD p 9 = x0)) = decide (x = x0) := by simp [List.getD_eq_getElem?_getD, hx]
  rw [e]
  by_cases h : x = x0
  · subst h
    rw [decide_eq_true rfl, Bool.and_true]
    by_cases h2 : L.all (fun t => decide (t.getD p 9 = x)) = true
    · rw [if_pos h2, if_pos rfl]
    · rw [if_neg h2, if_neg (by omega)]
  · rw [decide_eq_false h, Bool.and_false]
    by_cases h2 : L.all (fun t => decide (t.getD p 9 = x0)) = true
    · rw [if_pos h2, if_neg (show ¬ ((x0 : Int) = (x : Int)) by omega)]; rfl
    · rw [if_neg h2, if_neg (show ¬ ((-1 : Int) = (x : Int)) by omega)]; rfl
set_option maxRecDepth 8000 in
set_option maxHeartbeats 4000000 in
theorem rSure_ok (w : Wa) (hL : Lens w) : ACall Tryz.prog 24 [.t (tWa w)] [] (res (lsE (specSure w).1 (specSure w).2)) := by
  refine ACall.walk k24 ?_
  have q2 := rtold_ok w true hL
  unfold c24
  unfold tWa wa2 at q2 ⊢
  simp only [go_sem, Nat.reduceEqDiff, Nat.reduceAdd]
  refine ACallL.fresh1 q2 rfl ?_
  have hsp : toldE w true ≠ 0 → specSure w = ([], toldE w true) := by
    intro h
    unfold toldE specSure at *
    cases hok : w.ok
    · rfl
    · by_cases hz : waysN w.fits = 0
      · simp [hz]
      · rw [hok] at h; simp [hz] at h
  by_cases hE : toldE w true = 0
  rotate_left
  · have hE2 : (toldE w true != 0) = true := bne_iff_ne.2 hE
    have hz : (toldE w true = 0) = False := eq_false hE
    rw [hsp hE, if_neg hE]
    generalize toldE w true = E at *
    simp only [go_sem, Nat.reduceEqDiff, hE2]
    exact finL_ret [] ⟨rfl, rfl, rfl, rfl, _, rfl, res_mk (by simp only [lsE, hz, if_false]; rfl)⟩
  have hgood : w.ok = true ∧ waysN w.fits ≠ 0 := by
    unfold toldE at hE
    cases hok : w.ok
    · rw [hok] at hE; simp at hE
    · refine ⟨rfl, fun hz => ?_⟩
      rw [hok] at hE; simp [hz] at hE
  obtain ⟨hok, hz⟩ := hgood
  have hw := (w.ok_iff).1 hok
  have hn4 := hw.nf
  have hTA := fun {j : Nat} {t : List Nat} => tru_at hw (j := j) (t := t)
  have hTl : (truths w.fits).length ≤ 625 := ways_bd (by unfold Wa.fits; simpa using hn4)
  have hpos : 0 < (truths w.fits).length := by unfold waysN at hz; omega
  have hsu : sureL w = (List.range w.fs.length).map fun p => soleI (whoN p (truths w.fits)) := by
    unfold sureL
    refine List.map_congr_left fun p hp => ?_
    have := List.mem_range.1 hp
    rw [whose_get _ (by omega)]
  rw [specSure_at hok, if_neg hz, hsu, hE, truR_tT, if_pos rfl]
  clear hsu hsp
  generalize truths w.fits = L at *
  obtain ⟨t0, h00⟩ : ∃ t0, L[0]? = some t0 := ⟨L[0], List.getElem?_eq_getElem hpos⟩
  have f1 := tTs_at h00
  have hall6 : ∀ p, p < w.fs.length → ∀ t ∈ L, ∃ x, t[p]? = some x ∧ x < 6 := fun p hp t ht => by
    obtain ⟨k, hk⟩ := List.getElem?_of_mem ht
    obtain ⟨-, h⟩ := hTA hk
    obtain ⟨x, h1, h2⟩ := h p hp
    exact ⟨x, h1, by omega⟩
  simp only [go_sem, Nat.reduceEqDiff, bne_self_eq_false, if_true]
  refine awpL_loopK w.fs.length (fun j s => s = { env := [(7, .t (vi j)), (1, .ptr 0 0), (4, .t (.slice 1 (tTs L))), (6, .loc 1 j)], σ := [.cells [.t (.slice 4 (w.os.map tOw)), .t (.slice 5 (w.fs.map tFi))], rowI ((List.range j).map fun p => soleI (whoN p L))] })
    ⟨_, (Sub.ghost 6 1 (by decide) rfl).trans (Sub.gc [0, 1] [7, 1, 4, 6] rfl rfl), St.gc_mk rfl rfl rfl rfl⟩ ?_
  rintro j s hj rfl
  have hj0 : ((j : Int) < 0) = False := eq_false (by omega)
  have hwj : IntKind.i64.wrap ((j : Int) + 1) = ((j + 1 : Nat) : Int) := by rw [wrap_id (by omega) (by omega)]; omega
  have hlj : ((List.range j).map fun p => soleI (whoN p L)).length = j := by simp
  cases g : decide ((j : Int) < w.fs.length)
  · have hje : j = w.fs.length := by have := of_decide_eq_false g; omega
    rw [hje] at g hlj ⊢
    generalize (List.range w.fs.length).map (fun p => soleI (whoN p L)) = S at *
    unfold rowI
    simp only [go_sem, Nat.reduceEqDiff, Nat.reduceAdd, List.length_map, g]
    refine finL_ret [] ⟨rfl, rfl, rfl, rfl, _, rfl, res_mk ?_⟩
    refine congrArg Out.ret ?_
    show E.gc [] _ 12 (.tup [.loc 1 w.fs.length, .t (vi 0)]) = _
    rw [E.gc]
    simp only [List.map_cons, List.map_nil]
    rw [gc_loc (n := 9) (xs := S.map vi) rfl rfl (by rw [List.length_map, hlj])]
    rfl
  have hjl : j < w.fs.length := by have := of_decide_eq_true g; omega
  have hst : (List.range (j + 1)).map (fun p => soleI (whoN p L)) = (List.range j).map (fun p => soleI (whoN p L)) ++ [soleI (whoN j L)] := by rw [List.range_succ, List.map_append]; rfl
  rw [hst]
  obtain ⟨x0, hx0, hx05⟩ := (hTA h00).2 j hjl
  rw [sole_same h00 hx0 (hall6 j hjl)]
  generalize (List.range j).map (fun p => soleI (whoN p L)) = P at *
  have f2 := row_at hx0
  have hl0 : 0 < L.length := hpos
  simp only [go_sem, Nat.reduceEqDiff, Nat.reduceAdd, Int.reduceLE, List.length_map, g, f1, f2]
  refine awpL_loopK L.length (fun k s => s = { env := [(9, .t (vi k)), (1, .ptr 0 0), (4, .t (.slice 1 (tTs L))), (6, .loc 1 j), (7, .t (vi j)), (8, .t (vi (sameI j x0 (L.take k))))], σ := [.cells [.t (.slice 4 (w.os.map tOw)), .t (.slice 5 (w.fs.map tFi))], rowI P] })
    ⟨_, Sub.gc [0, 1] [9, 1, 4, 6, 7, 8] rfl rfl, St.gc_mk rfl (by unfold σgc rowI; simp only [List.map_cons, List.map_nil, List.getD_cons_zero, List.getD_cons_succ, AO.gc, gc_row]; rfl) rfl rfl⟩ ?_
  rintro k s hk rfl
  have hk0 : ((k : Int) < 0) = False := eq_false (by omega)
  have hwk : IntKind.i64.wrap ((k : Int) + 1) = ((k + 1 : Nat) : Int) := by rw [wrap_id (by omega) (by omega)]; omega
  cases g2 : decide ((k : Int) < L.length)
  · have hke : k = L.length := by have := of_decide_eq_false g2; omega
    rw [hke] at g2 ⊢
    rw [List.take_length]
    generalize sameI j x0 L = v at *
    have x1 : (j + 1 ≤ maxLen) = True := eq_true (by unfold maxLen; omega)
    have x2 : ((j + 1) * 8 ≤ 140737488355328) = True := eq_true (by omega)
    have happ : ((P.map vi).map Ab.E.t) ++ [Ab.E.t (vi v)] = (((P ++ [v]).map vi).map Ab.E.t) := by simp
    unfold rowI
    simp only [go_sem, Nat.reduceEqDiff, Nat.reduceAdd, Nat.reduceLT, List.length_map, tTs_len, g2, hlj, x1, x2, happ, hwj]
    exact ⟨hjl, _, Sub.gc [0, 1] [7, 1, 4, 6] rfl rfl, St.gc_mk rfl (by unfold σgc; simp only [List.map_cons, List.map_nil, List.getD_cons_zero, List.getD_cons_succ, AO.gc, gc_row]; rfl) rfl rfl⟩
  have hkl : k < L.length := by have := of_decide_eq_true g2; omega
  have hxk : L[k]? = some L[k] := List.getElem?_eq_getElem hkl
  obtain ⟨x, hx, hx5⟩ := (hTA hxk).2 j hjl
  have tx : L.take (k + 1) = L.take k ++ [L[k]] := by rw [List.take_add_one, hxk]; rfl
  rw [tx, sameI_snoc j x0 _ hx]
  clear tx
  have e1 := tTs_at hxk
  have e2 := row_at hx
  generalize sameI j x0 (L.take k) = v at *
  by_cases hv : v = (x : Int)
  · have hb : ((x : Int) != v) = false := by rw [hv]; simp
    rw [if_pos hv]
    unfold rowI
    simp only [go_sem, Nat.reduceEqDiff, tTs_len, g2, e1, e2, hb, hwk]
    exact ⟨hkl, _, Sub.gc [0, 1] [9, 1, 4, 6, 7, 8] rfl rfl, St.gc_mk rfl (by unfold σgc; simp only [List.map_cons, List.map_nil, List.getD_cons_zero, List.getD_cons_succ, AO.gc, gc_row]; rfl) rfl rfl⟩
  · have hb : ((x : Int) != v) = true := bne_iff_ne.2 (fun e => hv e.symm)
    rw [if_neg hv]
    unfold rowI
    simp only [go_sem, Nat.reduceEqDiff, Int.reduceNeg, tTs_len, g2, e1, e2, hb, hwk]
    exact ⟨hkl, _, Sub.gc [0, 1] [9, 1, 4, 6, 7, 8] rfl rfl, St.gc_mk rfl (by unfold σgc; simp only [List.map_cons, List.map_nil, List.getD_cons_zero, List.getD_cons_succ, AO.gc, gc_row]; rfl) rfl rfl⟩
end Go.Proofs.YtnmmhkkmejbckaaGreatDoor

/- The document's Where, Clash. -/
namespace Go.Proofs.YtnmmhkkmejbckaaGreatDoor
open Go Go.Ab

/-! ### Where -/
def hitB (L : List (List Nat)) (o f : Nat) : Bool := L.any fun t => t[f]? == some o
def inM (L : List (List Nat)) (t : List Nat) (o k n : Nat) : Nat := maskW (fun f => hitB L o f || (decide (f < k) && t[f]? == some o)) n
theorem maskW_same {p q : Nat → Bool} {n : Nat} (h : ∀ f, f < n → p f = q f) : maskW p n = maskW q n := by
  apply Nat.eq_of_testBit_eq
  intro i
  rw [maskW_bit, maskW_bit]
  by_cases hi : i < n
  · rw [h i hi]
  · rw [decide_eq_false hi]; rfl
theorem inM_zero (L : List (List Nat)) (t : List Nat) (o n : Nat) : inM L t o 0 n = maskW (hitB L o) n := by
  unfold inM
  refine maskW_same fun f _ => ?_
  simp
theorem inM_all (L : List (List Nat)) (t : List Nat) (o n : Nat) : inM L t o n n = maskW (hitB (L ++ [t]) o) n := by
  unfold inM
  refine maskW_same fun f hf => ?_
  unfold hitB
  rw [decide_eq_true hf, List.any_append]
  simp
theorem inM_no {L : List (List Nat)} {t : List Nat} {o k n : Nat} (h : (t[k]? == some o) = false) : inM L t o (k + 1) n = inM L t o k n := by
  unfold inM
  refine maskW_same fun f _ => ?_
  by_cases e : f = k
  · subst e; rw [h]; simp
  · rw [decide_eq_decide.2 (show f < k + 1 ↔ f < k by omega)]
theorem inM_yes {L : List (List Nat)} {t : List Nat} {o k n : Nat} (h : (t[k]? == some o) = true) (hk : k < n) : inM L t o (k + 1) n = inM L t o k n ||| 2 ^ k := by
  unfold inM
  apply Nat.eq_of_testBit_eq
  intro i
  rw [maskW_bit, Nat.testBit_or, maskW_bit, Nat.testBit_two_pow]
  by_cases e : k = i
  · subst e
    rw [h, decide_eq_true hk]; simp
  · rw [decide_eq_false e, Bool.or_false, decide_eq_decide.2 (show i < k + 1 ↔ i < k by omega)]
theorem whr_mask {w : Wa} (hw : w.OK) (o : Nat) : maskW (hitB (truths w.fits) o) w.fs.length = maskW (whereP w o) 4 := by
  have h4 := hw.nf
  have hlf : w.fits.length = w.fs.length := by unfold Wa.fits; simp
  apply Nat.eq_of_testBit_eq
  intro i
  rw [maskW_bit, maskW_bit]
  unfold whereP hitB
  rw [Bool.eq_iff_iff, Bool.and_eq_true, Bool.and_eq_true, decide_eq_true_eq, decide_eq_true_eq, List.any_eq_true]
  constructor
  · rintro ⟨h1, t, h2, h3⟩
    exact ⟨by omega, (whose_bit _ (by omega) o).2 ⟨t, h2, by simpa using h3⟩⟩
  · rintro ⟨h1, h2⟩
    obtain ⟨t, h3, h5⟩ := (whose_bit _ h1 o).1 h2
    have := (truths_mem.1 h3).1
    have := (List.getElem?_eq_some_iff.1 h5).1
    exact ⟨by omega, t, h3, by simpa using h5⟩
theorem whr_none {w : Wa} (hw : w.OK) (o : Nat) : ((truths w.fits).any fun t => !t.contains o) = decide (0 < waysN (lessL w.fits o)) := by
  have hlf : w.fits.length = w.fs.length := by unfold Wa.fits; simp
  have hll : (lessL w.fits o).length = w.fits.length := by unfold lessL; simp
  have hg : ∀ p, p < w.fits.length → (lessL w.fits o).getD p 0 = ndiff (w.fits.getD p 0) (2 ^ o) := fun p hp => by
    unfold lessL
    rw [List.getD_eq_getElem?_getD, List.getElem?_map, List.getD_eq_getElem?_getD, List.getElem?_eq_getElem hp]; rfl
  rw [Bool.eq_iff_iff, List.any_eq_true, decide_eq_true_eq]
  constructor
  · rintro ⟨t, h1, h2⟩
    obtain ⟨a, b, c⟩ := truths_mem.1 h1
    have : waysN (lessL w.fits o) ≠ 0 := ways_pos.2 ⟨t, truths_mem.2 ⟨by omega, b, fun p i hp => ?_⟩⟩
    · omega
    · have hpl := (List.getElem?_eq_some_iff.1 hp).1
      refine ⟨?_, (c p i hp).2⟩
      rw [hg p (by omega), ndiff_bit, (c p i hp).1, Nat.testBit_two_pow]
      have hne : o ≠ i := fun e => by
        have hm : o ∈ t := e ▸ List.mem_of_getElem? hp
        rw [Bool.not_eq_true', ← Bool.not_eq_true, List.contains_iff_mem] at h2
        exact h2 hm
      rw [decide_eq_false hne]; rfl
  · intro h
    obtain ⟨t, h1⟩ := ways_pos.1 (show waysN (lessL w.fits o) ≠ 0 by omega)
    obtain ⟨a, b, c⟩ := truths_mem.1 h1
    have hbit : ∀ (p i : Nat), t[p]? = some i → (w.fits.getD p 0).testBit i = true ∧ i ≠ o := fun p i hp => by
      have hpl := (List.getElem?_eq_some_iff.1 hp).1
      have := (c p i hp).1
      rw [hg p (by omega), ndiff_bit, Bool.and_eq_true, Nat.testBit_two_pow] at this
      refine ⟨this.1, fun e => ?_⟩
      subst e
      simp at this
    refine ⟨t, truths_mem.2 ⟨by omega, b, fun p i hp => ⟨(hbit p i hp).1, (c p i hp).2⟩⟩, ?_⟩
    rw [Bool.not_eq_true', ← Bool.not_eq_true, List.contains_iff_mem]
    intro hm
    obtain ⟨p, hp⟩ := List.getElem?_of_mem hm
    exact (hbit p o hp).2 rfl
set_option maxRecDepth 8000 in
set_option maxHeartbeats 8000000 in
theorem rWhere_ok (w : Wa) (i : Int) (hL : Lens w) : ACall Tryz.prog 22 [.t (tWa w), .t (vi i)] [] (res (whrE (specWhere w i).1 (specWhere w i).2.1 (specWhere w i).2.2)) := by
  refine ACall.walk k22 ?_
  have q1 := rOwner_ok w i hL
  have q2 := rtold_ok w (w.isO i) hL
  unfold c22
  unfold tWa wa2 at q1 q2 ⊢
  simp only [go_sem, Nat.reduceEqDiff, Nat.reduceAdd]
  refine ACallL.quiet1 q1 rfl rfl rfl ?_
  simp only [go_sem, Nat.reduceEqDiff, Nat.reduceAdd]
  refine ACallL.fresh1 q2 rfl ?_
  have hsp : toldE w (w.isO i) ≠ 0 → specWhere w i = (0, false, toldE w (w.isO i)) := by
    intro h
    unfold toldE specWhere at *
    cases hok : w.ok
    · rfl
    · cases hi : w.isO i
      · rfl
      · by_cases hz : waysN w.fits = 0
        · simp [hz]
        · rw [hok, hi] at h; simp [hz] at h
  by_cases hE : toldE w (w.isO i) = 0
  rotate_left
  · have hE2 : (toldE w (w.isO i) != 0) = true := bne_iff_ne.2 hE
    rw [hsp hE, if_neg hE]
    generalize toldE w (w.isO i) = E at *
    simp only [go_sem, Nat.reduceEqDiff, Nat.reduceAdd, hE2]
    exact finL_ret [] ⟨rfl, rfl, rfl, rfl, _, rfl, res_mk rfl⟩
  have hgood : w.ok = true ∧ w.isO i = true ∧ waysN w.fits ≠ 0 := by
    unfold toldE at hE
    cases hok : w.ok
    · rw [hok] at hE; simp at hE
    · cases hi : w.isO i
      · rw [hok, hi] at hE; simp at hE
      · refine ⟨rfl, rfl, fun hz => ?_⟩
        rw [hok, hi] at hE; simp [hz] at hE
  obtain ⟨hok, hi, hz⟩ := hgood
  obtain ⟨n, rfl, hn⟩ := isO_nat hi
  have hw := (w.ok_iff).1 hok
  have hn4 := hw.nf
  have hn5 := hw.no
  have hs : specWhere w n = (((maskW (hitB (truths w.fits) n) w.fs.length : Nat) : Int), ((truths w.fits).any fun t => !t.contains n), 0) := by rw [specWhere_at hok hn, if_neg hz, whr_mask hw, whr_none hw]
  have hTA := fun {j : Nat} {t : List Nat} => tru_at hw (j := j) (t := t)
  have hTl : (truths w.fits).length ≤ 625 := ways_bd (by unfold Wa.fits; simpa using hn4)
  rw [hs, hE, truR_tT, if_pos rfl]
  generalize truths w.fits = L at *
  simp only [go_sem, Nat.reduceEqDiff, Nat.reduceAdd, bne_self_eq_false]
  refine awpL_loopK L.length (fun j s => s = { env := [(11, .t (vi j)), (1, .t (vi n)), (2, .ptr 0 0), (7, .t (.slice 1 (tTs L))), (9, .t (vi (maskW (hitB (L.take j) n) w.fs.length : Nat))), (10, .t (vb ((L.take j).any fun t => !t.contains n)))], σ := [.cells [.t (.slice 4 (w.os.map tOw)), .t (.slice 5 (w.fs.map tFi))]] })
    ⟨_, Sub.gc [0] [11, 1, 2, 7, 9, 10] rfl rfl, ?_⟩ ?_
  · have e0 : maskW (hitB (L.take 0) n) w.fs.length = 0 := by
      apply Nat.eq_of_testBit_eq
      intro b
      rw [maskW_bit]; simp [hitB]
    rw [e0]
    exact St.gc_mk rfl rfl rfl rfl
  rintro j s hj rfl
  have hj0 : ((j : Int) < 0) = False := eq_false (by omega)
  have hwj : IntKind.i64.wrap ((j : Int) + 1) = ((j + 1 : Nat) : Int) := by rw [wrap_id (by omega) (by omega)]; omega
  cases g : decide ((j : Int) < L.length)
  · have hje : j = L.length := by have := of_decide_eq_false g; omega
    rw [hje] at g ⊢
    rw [List.take_length]
    generalize (L.any fun t => !t.contains n) = B at *
    simp only [go_sem, Nat.reduceEqDiff, tTs_len, g]
    exact finL_ret [] ⟨rfl, rfl, rfl, rfl, _, rfl, res_mk rfl⟩
  have hjl : j < L.length := by have := of_decide_eq_true g; omega
  have hx : L[j]? = some L[j] := List.getElem?_eq_getElem hjl
  obtain ⟨htl, hp⟩ := hTA hx
  have tx : L.take (j + 1) = L.take j ++ [L[j]] := by rw [List.take_add_one, hx]; rfl
  rw [tx, List.any_append]
  clear tx
  have e1 := tTs_at hx
  generalize L[j] = t at *
  have hone : ([t].any fun t => !t.contains n) = !t.contains n := by simp
  rw [hone]
  have qT := rtaken_ok (t.map cI) (n : Int) (by simp; omega)
  rw [cI_contains] at qT
  unfold tI' at qT
  have hML : ∀ k, inM (L.take j) t n k w.fs.length < 16 := fun k => by
    have := maskW_lt (fun f => hitB (L.take j) n f || (decide (f < k) && t[f]? == some n)) w.fs.length
    have h2 : 2 ^ w.fs.length ≤ 2 ^ 4 := Nat.pow_le_pow_right (by omega) hn4
    unfold inM
    omega
  rw [← inM_zero (L.take j) t n w.fs.length, ← inM_all (L.take j) t n w.fs.length]
  generalize L.take j = Q at *
  generalize (Q.any fun t => !t.contains n) = B at *
  -- the walk of one truth
  have inner : ∀ B2 : Bool, B2 = (B || !t.contains n) → ∀ {Q' : Lz (Ex → St → Prop)} {env : List (Nat × E)}, True → True := fun _ _ _ _ h => h
  clear inner
  simp only [go_sem, Nat.reduceEqDiff, tTs_len, g, e1]
  refine ACallL.quiet1 qT rfl rfl rfl ?_
  cases hc : t.contains n
  all_goals
    simp only [go_sem, Nat.reduceEqDiff, Bool.not_true, Bool.not_false, Bool.not_false, Bool.not_true]
    refine awpL_loopK w.fs.length (fun k s => s = { env := [(12, .t (vi k)), (1, .t (vi n)), (2, .ptr 0 0), (7, .t (.slice 1 (tTs L))), (9, .t (vi (inM Q t n k w.fs.length : Nat))), (10, .t (vb (B || !t.contains n))), (11, .t (vi j))], σ := [.cells [.t (.slice 4 (w.os.map tOw)), .t (.slice 5 (w.fs.map tFi))]] })
      ⟨_, Sub.gc [0] [12, 1, 2, 7, 9, 10, 11] rfl rfl, by rw [hc]; exact St.gc_mk (by simp only [Bool.not_false, Bool.not_true, Bool.or_true, Bool.or_false]; rfl) rfl rfl rfl⟩ ?_
    rintro k s hk rfl
    have hk0 : ((k : Int) < 0) = False := eq_false (by omega)
    have hwk : IntKind.i64.wrap ((k : Int) + 1) = ((k + 1 : Nat) : Int) := by rw [wrap_id (by omega) (by omega)]; omega
    cases g2 : decide ((k : Int) < w.fs.length)
    · have hke : k = w.fs.length := by have := of_decide_eq_false g2; omega
      rw [hke] at g2 ⊢
      rw [hc]
      simp only [go_sem, Nat.reduceEqDiff, Nat.reduceAdd, Bool.not_true, Bool.not_false, Bool.or_true, Bool.or_false, List.length_map, g2, hwj, Bool.not_false, Bool.not_true, Bool.or_true, Bool.or_false]
      exact ⟨hjl, _, Sub.gc [0] [11, 1, 2, 7, 9, 10] rfl rfl, St.gc_mk rfl rfl rfl rfl⟩
    have hkl : k < w.fs.length := by have := of_decide_eq_true g2; omega
    obtain ⟨x, hx1, hx2⟩ := hp k hkl
    have e2 := row_at hx1
    have hM1 := hML k
    rw [hc]
    cases hxn : ((x : Int) == (n : Int))
    · have hno : (t[k]? == some n) = false := by
        rw [hx1]
        have : x ≠ n := fun e => by rw [e] at hxn; simp at hxn
        simpa using this
      rw [inM_no hno]
      generalize inM Q t n k w.fs.length = M at *
      simp only [go_sem, Nat.reduceEqDiff, Nat.reduceAdd, Bool.not_true, Bool.not_false, undef, Bool.or_true, Bool.or_false, List.length_map, g2, e1, e2, hxn, hwk, Bool.not_false, Bool.not_true, Bool.or_true, Bool.or_false]
      exact ⟨hkl, _, Sub.gc [0] [12, 1, 2, 7, 9, 10, 11] rfl rfl, St.gc_mk rfl rfl rfl rfl⟩
    · have hyes : (t[k]? == some n) = true := by
        rw [hx1]
        have : x = n := by have := beq_iff_eq.1 hxn; omega
        simpa using this
      rw [inM_yes hyes hkl]
      generalize inM Q t n k w.fs.length = M at *
      have qH := rHas_ok M k (by omega) (by omega)
      have qP := power_ok k (by omega)
      have hp5 : 2 ^ k ≤ 2 ^ 5 := Nat.pow_le_pow_right (by omega) (by omega)
      simp only [go_sem, Nat.reduceEqDiff, Nat.reduceAdd, Bool.not_true, Bool.not_false, beq_self_eq_true, Bool.or_true, Bool.or_false, List.length_map, g2, e1, e2, hxn, Bool.not_false, Bool.not_true, Bool.or_true, Bool.or_false]
      refine ACallL.quiet1 qH rfl rfl rfl ?_
      cases hb : M.testBit k
      · have hadd := or_add M (by omega) k (by omega) hb
        have hw2 : IntKind.i64.wrap ((M : Int) + ((2 ^ k : Nat) : Int)) = ((M ||| 2 ^ k : Nat) : Int) := by rw [← hadd, wrap_id (by omega) (by omega)]; omega
        simp only [go_sem, Nat.reduceEqDiff, Bool.not_false, beq_self_eq_true]
        refine ACallL.quiet1 qP rfl rfl rfl ?_
        simp only [go_sem, Nat.reduceEqDiff, Bool.not_true, Bool.not_false, Bool.or_true, Bool.or_false, hw2, hwk]
        exact ⟨hkl, _, Sub.gc [0] [12, 1, 2, 7, 9, 10, 11] rfl rfl, St.gc_mk rfl rfl rfl rfl⟩
      · have hsame : M ||| 2 ^ k = M := by
          apply Nat.eq_of_testBit_eq
          intro b
          rw [Nat.testBit_or, Nat.testBit_two_pow]
          by_cases e : k = b
          · subst e; rw [hb]; rfl
          · rw [decide_eq_false e, Bool.or_false]
        rw [hsame]
        simp only [go_sem, Nat.reduceEqDiff, Bool.not_true, Bool.not_false, beq_self_eq_true, Bool.or_true, Bool.or_false, hwk]
        exact ⟨hkl, _, Sub.gc [0] [12, 1, 2, 7, 9, 10, 11] rfl rfl, St.gc_mk rfl rfl rfl rfl⟩

/-! ### Clash -/
theorem size_full : ∀ n : Nat, n < 5 → ∀ k : Nat, k < 16 → k < 2 ^ n → size k = n → k = 2 ^ n - 1 := by decide +kernel
structure Best (f : List Nat) (ev k b : Nat) : Prop where
  le : b ≤ ev
  no : waysN (pick f b) = 0
  at_ : b < k ∨ b = ev
  min : ∀ y, y < k → y ≤ ev → waysN (pick f y) = 0 → size b < size y ∨ (size b = size y ∧ b ≤ y)
set_option maxRecDepth 8000 in
set_option maxHeartbeats 8000000 in
theorem rClash_ok (w : Wa) (hL : Lens w) : ACall Tryz.prog 26 [.t (tWa w)] [] (res (oneE (specClash w).1 (specClash w).2)) := by
  refine ACall.walk k26 ?_
  have q1 := rcheck_ok w true hL
  unfold c26
  cases hok : w.ok
  · have hs : specClash w = (0, 1) := by unfold specClash; rw [hok]; rfl
    have hc : chkI w true = 1 := by unfold chkI; rw [hok]; rfl
    rw [hc] at q1
    rw [hs]
    unfold tWa wa2 at q1 ⊢
    simp only [go_sem, Nat.reduceEqDiff, Nat.reduceAdd]
    refine ACallL.quiet1 q1 rfl rfl rfl ?_
    simp only [go_sem, Nat.reduceEqDiff, Int.reduceBNe]
    exact finL_ret [] ⟨rfl, rfl, rfl, rfl, _, rfl, res_mk rfl⟩
  have hc : chkI w true = 0 := by unfold chkI; rw [hok]; rfl
  have hw := (w.ok_iff).1 hok
  have hn4 := hw.nf
  have q2 := rTruths_ok w hw
  have q3 := revery_ok w hn4
  have q4 := fun set hs => rtruths_ok w hw set hs
  have hlf : w.fits.length = w.fs.length := by unfold Wa.fits; simp
  rw [hc] at q1
  have hs : specClash w = if waysN w.fits = 0 then (match clashF w.fits with | some s => (((s : Nat) : Int), (0 : Int)) | none => (0, 4)) else (0, 4) := by unfold specClash; rw [hok, if_pos rfl]; rfl
  have hlen := truR_len w
  unfold tWa wa2 at q1 q2 q3 q4 ⊢
  by_cases hz : waysN w.fits = 0
  rotate_left
  · rw [hs, if_neg hz]
    have hg : decide (((truR w).length : Int) > 0) = true := decide_eq_true (by omega)
    generalize truR w = L at *
    simp only [go_sem, Nat.reduceEqDiff, Nat.reduceAdd]
    refine ACallL.quiet1 q1 rfl rfl rfl ?_
    simp only [go_sem, Nat.reduceEqDiff, Nat.reduceAdd, bne_self_eq_false]
    refine ACallL.fresh1 q2 rfl ?_
    simp only [go_sem, Nat.reduceEqDiff, List.length_map, hg]
    exact finL_ret [] ⟨rfl, rfl, rfl, rfl, _, rfl, res_mk rfl⟩
  obtain ⟨f1, f2⟩ := fits_small hw
  obtain ⟨s, s1, s2, -, s4, s5⟩ := clash_law f1 hz
  rw [hlf] at s2 s5
  rw [hs, if_pos hz, s1]
  have hg : decide (((truR w).length : Int) > 0) = false := decide_eq_false (by omega)
  have hp : 2 ^ w.fs.length ≤ 2 ^ 4 := Nat.pow_le_pow_right (by omega) hn4
  have hp0 := Nat.two_pow_pos w.fs.length
  have hev : waysN (pick w.fits (2 ^ w.fs.length - 1)) = 0 := by
    have := pick_all w.fits
    rw [hlf] at this
    rw [this]; exact hz
  have hfull := size_full w.fs.length (by omega)
  have hall := size_all w.fs.length (by omega)
  have hsin := size_in w.fs.length (by omega)
  have hcl := fun set => rtr_clash hw set
  generalize hEV : 2 ^ w.fs.length - 1 = EV at *
  generalize truR w = L at *
  simp only [go_sem, Nat.reduceEqDiff, Nat.reduceAdd]
  refine ACallL.quiet1 q1 rfl rfl rfl ?_
  simp only [go_sem, Nat.reduceEqDiff, Nat.reduceAdd, bne_self_eq_false]
  refine ACallL.fresh1 q2 rfl ?_
  simp only [go_sem, Nat.reduceEqDiff, Nat.reduceAdd, List.length_map, hg]
  refine ACallL.quiet1 q3 rfl rfl rfl ?_
  simp only [go_sem, Nat.reduceEqDiff]
  refine awpL_loopK (EV + 1) (fun k st => ∃ b : Nat, Best w.fits EV k b ∧ st = { env := [(6, .t (vi k)), (1, .ptr 0 0), (5, .t (vi b))], σ := [.cells [.t (.slice 4 (w.os.map tOw)), .t (.slice 5 (w.fs.map tFi))]] })
    ⟨_, Sub.gc [0] [6, 1, 5] rfl rfl, EV, ⟨Nat.le_refl _, hev, .inr rfl, fun y h => by omega⟩, St.gc_mk rfl rfl rfl rfl⟩ ?_
  rintro k st hk ⟨b, hB, rfl⟩
  have hwk : IntKind.i64.wrap ((k : Int) + 1) = ((k + 1 : Nat) : Int) := by rw [wrap_id (by omega) (by omega)]; omega
  cases g : decide ((k : Int) ≤ (EV : Int))
  · have hke : k = EV + 1 := by have := of_decide_eq_false g; omega
    have hbs : b = s := by
      have h1 := hB.min s (by omega) (by omega) s4
      have h2 := s5 b (by have := hB.le; omega) hB.no
      omega
    simp only [go_sem, Nat.reduceEqDiff, Nat.reduceAdd]
    refine ACallL.quiet1 q3 rfl rfl rfl ?_
    simp only [go_sem, Nat.reduceEqDiff, g]
    exact finL_ret [] ⟨rfl, rfl, rfl, rfl, _, rfl, res_mk (by rw [hbs]; rfl)⟩
  have hkl : k ≤ EV := by have := of_decide_eq_true g; omega
  have hble := hB.le
  have r1 := rsize_ok k (by omega)
  have r2 := rsize_ok b (by omega)
  have r3 := q4 k (by omega)
  simp only [go_sem, Nat.reduceEqDiff, Nat.reduceAdd]
  refine ACallL.quiet1 q3 rfl rfl rfl ?_
  simp only [go_sem, Nat.reduceEqDiff, g]
  refine ACallL.quiet1 r1 rfl rfl rfl ?_
  simp only [go_sem, Nat.reduceEqDiff]
  refine ACallL.quiet1 r2 rfl rfl rfl ?_
  cases g2 : decide ((size k : Int) < (size b : Int))
  · simp only [go_sem, Nat.reduceEqDiff, undef, g2, hwk]
    refine ⟨by omega, _, Sub.gc [0] [6, 1, 5] rfl rfl, b, ⟨hB.le, hB.no, ?_, fun y h1 h2 h3 => ?_⟩, St.gc_mk rfl rfl rfl rfl⟩
    · rcases hB.at_ with h | h
      · exact .inl (by omega)
      · exact .inr h
    · by_cases e : y = k
      · subst e
        have hle : size b ≤ size y := by have := of_decide_eq_false g2; omega
        by_cases e2 : size b = size y
        · refine .inr ⟨e2, ?_⟩
          rcases hB.at_ with h | h
          · omega
          · have hyf := hfull y (by omega) (by omega) (by rw [← e2, h]; exact hall)
            omega
        · exact .inl (by omega)
      · exact hB.min y (by omega) h2 h3
  · have hlt : size k < size b := by have := of_decide_eq_true g2; omega
    simp only [go_sem, Nat.reduceEqDiff, Nat.reduceAdd, beq_self_eq_true, g2]
    refine ACallL.fresh1 r3 rfl ?_
    have hck := hcl k
    generalize rtr w k w.fs.length [] = R at *
    by_cases hR : R.length = 0
    · have hRn : R = [] := List.eq_nil_of_length_eq_zero hR
      have hnk : waysN (pick w.fits k) = 0 := by
        by_cases h : waysN (pick w.fits k) = 0
        · exact h
        · exact absurd hRn (hck.2 h)
      have g3 : ((R.length : Int) == 0) = true := beq_iff_eq.2 (by omega)
      simp only [go_sem, Nat.reduceEqDiff, beq_self_eq_true, List.length_map, g3, hwk]
      refine ⟨by omega, _, Sub.gc [0] [6, 1, 5] rfl rfl, k, ⟨hkl, hnk, .inl (by omega), fun y h1 h2 h3 => ?_⟩, St.gc_mk rfl rfl rfl rfl⟩
      by_cases e : y = k
      · subst e; exact .inr ⟨rfl, Nat.le_refl _⟩
      · have := hB.min y (by omega) h2 h3
        exact .inl (by omega)
    · have g3 : ((R.length : Int) == 0) = false := beq_false_of_ne (by omega)
      have hnk : waysN (pick w.fits k) ≠ 0 := hck.1 (fun e => hR (by rw [e]; rfl))
      simp only [go_sem, Nat.reduceEqDiff, beq_self_eq_true, List.length_map, g3, hwk]
      refine ⟨by omega, _, Sub.gc [0] [6, 1, 5] rfl rfl, b, ⟨hB.le, hB.no, ?_, fun y h1 h2 h3 => ?_⟩, St.gc_mk rfl rfl rfl rfl⟩
      · rcases hB.at_ with h | h
        · exact .inl (by omega)
        · exact .inr h
      · by_cases e : y = k
        · subst e; exact absurd h3 hnk
        · exact hB.min y (by omega) h2 h3
end Go.Proofs.YtnmmhkkmejbckaaGreatDoor
