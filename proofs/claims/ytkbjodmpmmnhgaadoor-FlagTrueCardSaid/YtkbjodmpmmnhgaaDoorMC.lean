/- Proved here: laws that the statements need (FlH, FlI, FlJ, FlK). No conditions but those that each law states. -/
import Derived.Test.YtkbjodmpmmnhgaaDoorMB

set_option linter.unusedSimpArgs false
set_option linter.unusedVariables false

/- What comes of all truths: the memo, and what it tells. -/
namespace Go.Proofs.YtkbjodmpmmnhgaaDoor
open Go Go.Ab

theorem snoc_ind {α : Type} {P : List α → Prop} (h0 : P []) (h1 : ∀ l a, P l → P (l ++ [a])) (l : List α) : P l := by
  have : ∀ r : List α, P r.reverse := fun r => by
    induction r with
    | nil => exact h0
    | cons a r ih => rw [List.reverse_cons]; exact h1 _ _ ih
  have h := this l.reverse
  rwa [List.reverse_reverse] at h
/-- Steps are put together. -/
def stepAcc {X : Type} (val : Pole → Option X) (st : Step → X → X) (jn : X → X → X) (acc : Option X) (s : Step) : Option X := match val s.1 with
  | none => acc
  | some r => some (match acc with | none => st s r | some a => jn a (st s r))
def foldS {X : Type} (val : Pole → Option X) (st : Step → X → X) (jn : X → X → X) (l : List Step) : Option X := l.foldl (stepAcc val st jn) none
theorem foldS_snoc {X : Type} (val : Pole → Option X) (st : Step → X → X) (jn : X → X → X) (l : List Step) (s : Step) : foldS val st jn (l ++ [s]) = stepAcc val st jn (foldS val st jn l) s := by simp [foldS]
/-- What is told of so many hours that are left, from an hour on. -/
def toldV {X : Type} (f : Fl) (e : X) (st : Nat → Step → X → X) (jn : X → X → X) : Nat → Nat → Pole → Option X
  | 0, _, _ => some e
  | l + 1, h, p => foldS (toldV f e st jn l (h + 1)) (st h) jn (stepsL f p h)

theorem stepsL_len (f : Fl) (p : Pole) (h : Nat) : (stepsL f p h).length ≤ 3 := by
  have : ∀ o : Option Step, o.toList.length ≤ 1 := fun o => by cases o <;> simp
  simp only [stepsL, stepsK, List.length_append, List.length_nil]
  have h0 := this (stepAt f p h 0)
  have h1 := this (stepAt f p h 1)
  have h2 := this (stepAt f p h 2)
  omega
theorem stepsL_mem {f : Fl} {p : Pole} {h : Nat} {s : Step} (hs : s ∈ stepsL f p h) : ∃ k, k < 3 ∧ stepAt f p h k = some s := by
  simp only [stepsL, stepsK, List.nil_append, List.mem_append, Option.mem_toList, Option.mem_def] at hs
  rcases hs with (h | h) | h
  · exact ⟨0, by omega, h⟩
  · exact ⟨1, by omega, h⟩
  · exact ⟨2, by omega, h⟩
/-- How calm it can have been. -/
theorem hour_calm {q : Int} {p : Pole} {k : Int} {n : Nat} (hp : 0 ≤ p.2 ∧ p.2 ≤ n) : 0 ≤ (hourF q p k).1.2 ∧ (hourF q p k).1.2 ≤ (n + 1 : Nat) := by
  unfold hourF
  split
  · simp only; omega
  · split
    · simp only; omega
    · split
      · simp only; omega
      · simp only; omega
theorem step_calm {f : Fl} {p : Pole} {h n : Nat} {s : Step} (hs : s ∈ stepsL f p h) (hp : 0 ≤ p.2 ∧ p.2 ≤ n) : 0 ≤ s.1.2 ∧ s.1.2 ≤ (n + 1 : Nat) := by
  obtain ⟨k, _, e⟩ := stepsL_mem hs
  simp only [stepAt, Option.ite_none_right_eq_some, Option.some.injEq] at e
  obtain ⟨_, rfl⟩ := e
  exact hour_calm hp

/-! ### Numbers -/
abbrev stI (tl : Tl) (h : Nat) (s : Step) (r : Int) : Int := r * (tl.cnt s h : Nat)
abbrev waysV (f : Fl) (tl : Tl) : Nat → Nat → Pole → Option Int := toldV f 1 (stI tl) (· + ·)
abbrev stS (tl : Tl) (h : Nat) (s : Step) (r : Int × Int) : Int × Int := (r.1 + (tl.cnt s h : Nat), r.2 + (tl.cnt s h : Nat))
abbrev jnS (a b : Int × Int) : Int × Int := (min a.1 b.1, max a.2 b.2)
abbrev spanV (f : Fl) (tl : Tl) : Nat → Nat → Pole → Option (Int × Int) := toldV f (0, 0) (stS tl) jnS

theorem stI_le (tl : Tl) (h : Nat) (s : Step) {r M : Int} (hr : 0 ≤ r ∧ r ≤ M) : 0 ≤ stI tl h s r ∧ stI tl h s r ≤ M := by
  have := tl.cnt_le s h
  unfold stI
  have : tl.cnt s h = 0 ∨ tl.cnt s h = 1 := by omega
  rcases this with e | e <;> rw [e] <;> simp <;> omega
theorem foldI_le (val : Pole → Option Int) (tl : Tl) (h : Nat) (M : Int) (hv : ∀ p v, val p = some v → 0 ≤ v ∧ v ≤ M) (hM : 0 ≤ M) : ∀ (l : List Step) (v : Int), foldS val (stI tl h) (· + ·) l = some v → 0 ≤ v ∧ v ≤ l.length * M := by
  intro l
  induction l using snoc_ind with
  | h0 => intro v e; cases e
  | h1 l s ih =>
    intro v e
    rw [foldS_snoc] at e
    unfold stepAcc at e
    have hl : ((l ++ [s]).length : Int) * M = l.length * M + M := by
      rw [List.length_append]
      simp only [List.length_singleton]
      rw [Int.natCast_add, Int.add_mul]
      simp
    rw [hl]
    have h0 : 0 ≤ (l.length : Int) * M := Int.mul_nonneg (by omega) hM
    cases hs : val s.1 with
    | none =>
      rw [hs] at e
      have := ih v e
      omega
    | some r =>
      rw [hs] at e
      have hr := stI_le tl h s (hv _ _ hs)
      cases ha : foldS val (stI tl h) (· + ·) l with
      | none => rw [ha] at e; cases e; simp only; omega
      | some a =>
        rw [ha] at e
        have := ih a ha
        cases e
        simp only
        omega
theorem waysV_le (f : Fl) (tl : Tl) : ∀ (l h : Nat) (p : Pole) (v : Int), waysV f tl l h p = some v → 0 ≤ v ∧ v ≤ (3 : Int) ^ l
  | 0, _, _, v, e => by cases e; simp
  | l + 1, h, p, v, e => by
    have h3 : (0 : Int) ≤ (3 : Int) ^ l := Int.le_of_lt (Int.pow_pos (by decide))
    have := foldI_le (waysV f tl l (h + 1)) tl h ((3 : Int) ^ l) (fun p v e => waysV_le f tl l (h + 1) p v e) h3 _ v e
    have hl := stepsL_len f p h
    refine ⟨this.1, Int.le_trans this.2 ?_⟩
    rw [Int.pow_succ, Int.mul_comm]
    exact Int.mul_le_mul_of_nonneg_left (by omega) h3
theorem pow3_le {l : Nat} (h : l ≤ 9) : (3 : Int) ^ l ≤ 19683 := by
  have : l = 0 ∨ l = 1 ∨ l = 2 ∨ l = 3 ∨ l = 4 ∨ l = 5 ∨ l = 6 ∨ l = 7 ∨ l = 8 ∨ l = 9 := by omega
  rcases this with rfl | rfl | rfl | rfl | rfl | rfl | rfl | rfl | rfl | rfl <;> decide

theorem foldS_le (val : Pole → Option (Int × Int)) (tl : Tl) (h : Nat) (M : Int) (hv : ∀ p v, val p = some v → 0 ≤ v.1 ∧ v.1 ≤ M ∧ 0 ≤ v.2 ∧ v.2 ≤ M) : ∀ (l : List Step) (v : Int × Int), foldS val (stS tl h) jnS l = some v → 0 ≤ v.1 ∧ v.1 ≤ M + 1 ∧ 0 ≤ v.2 ∧ v.2 ≤ M + 1 := by
  intro l
  induction l using snoc_ind with
  | h0 => intro v e; cases e
  | h1 l s ih =>
    intro v e
    rw [foldS_snoc] at e
    unfold stepAcc at e
    have hc := tl.cnt_le s h
    cases hs : val s.1 with
    | none =>
      rw [hs] at e
      exact ih v e
    | some r =>
      rw [hs] at e
      have hr := hv _ _ hs
      cases ha : foldS val (stS tl h) jnS l with
      | none => rw [ha] at e; cases e; simp only; omega
      | some a =>
        rw [ha] at e
        have := ih a ha
        cases e
        simp only
        omega
theorem spanV_le (f : Fl) (tl : Tl) : ∀ (l h : Nat) (p : Pole) (v : Int × Int), spanV f tl l h p = some v → 0 ≤ v.1 ∧ v.1 ≤ l ∧ 0 ≤ v.2 ∧ v.2 ≤ l
  | 0, _, _, v, e => by cases e; simp
  | l + 1, h, p, v, e => by
    have := foldS_le (spanV f tl l (h + 1)) tl h l (fun p v e => spanV_le f tl l (h + 1) p v e) _ v e
    omega

/-! ### The memo -/
abbrev shA : Sh := (some [none, some .i64, some .i64], none)
/-- What stands in the memo is right. -/
def MapOK (n : Nat) (g : Nat → Pole → T) (ks : List (Nat × List Int)) (xs : List T) : Prop :=
  ks.length = xs.length ∧ ∀ (i : Nat) e x, ks[i]? = some e → xs[i]? = some x → ∃ (u c : Int) (h : Nat), e.2 = [u, c, (h : Int)] ∧ h ≤ n ∧ x = g h (u != 0, c)
theorem MapOK.nil (n : Nat) (g : Nat → Pole → T) : MapOK n g [] [] := ⟨rfl, fun i e x h => by simp at h⟩
abbrev keyA (p : Pole) (h : Nat) : List Int := [if p.1 then 1 else 0, p.2, h]
theorem MapOK.find {n : Nat} {g : Nat → Pole → T} {ks : List (Nat × List Int)} {xs : List T} (M : MapOK n g ks xs) {p : Pole} {h i : Nat} (hf : kfind shA ks (keyA p h) = some i) : xs[i]? = some (g h p) := by
  unfold kfind at hf
  obtain ⟨hi, hp, _⟩ := List.findIdx?_eq_some_iff_getElem.1 hf
  have hix : i < xs.length := by rw [← M.1]; exact hi
  obtain ⟨u, c, h', e1, _, e2⟩ := M.2 i ks[i] xs[i] (List.getElem?_eq_getElem hi) (List.getElem?_eq_getElem hix)
  rw [e1] at hp
  simp only [shKinds, kEq, cellEq, Bool.and_true, Bool.and_eq_true, beq_iff_eq] at hp
  obtain ⟨a1, a2, a3⟩ := hp
  obtain ⟨up, cc⟩ := p
  simp only at a1 a2 a3
  have h3 : h = h' := by omega
  subst h3 a2
  have h1 : up = (u != 0) := by rw [← a1]; cases up <;> rfl
  rw [List.getElem?_eq_getElem hix, e2, h1]
theorem MapOK.put {n : Nat} {g : Nat → Pole → T} {ks : List (Nat × List Int)} {xs : List T} (M : MapOK n g ks xs) {p : Pole} {h i : Nat} (hf : kfind shA ks (keyA p h) = some i) : MapOK n g ks (xs.set i (g h p)) := by
  have hx := M.find hf
  have : xs.set i (g h p) = xs := by
    apply List.ext_getElem?
    intro j
    by_cases hj : i = j
    · subst hj
      rw [List.getElem?_set_self (List.getElem?_eq_some_iff.1 hx).1, hx]
    · rw [List.getElem?_set_ne hj]
  rw [this]; exact M
theorem MapOK.new {n : Nat} {g : Nat → Pole → T} {ks : List (Nat × List Int)} {xs : List T} (M : MapOK n g ks xs) {p : Pole} {h clk : Nat} (hh : h ≤ n) : MapOK n g (ks ++ [(clk, keyA p h)]) (xs ++ [g h p]) := by
  refine ⟨by simp [M.1], fun i e x h1 h2 => ?_⟩
  by_cases hi : i < ks.length
  · rw [List.getElem?_append_left hi] at h1
    rw [List.getElem?_append_left (by rw [← M.1]; exact hi)] at h2
    exact M.2 i e x h1 h2
  · have hlt := (List.getElem?_eq_some_iff.1 h1).1
    simp at hlt
    obtain rfl : i = ks.length := by omega
    rw [List.getElem?_append_right (by omega)] at h1
    rw [M.1, List.getElem?_append_right (by omega)] at h2
    simp at h1 h2
    subst h1 h2
    obtain ⟨up, c⟩ := p
    exact ⟨if up then 1 else 0, c, h, rfl, hh, by cases up <;> rfl⟩

/-- The objects of such a call. -/
def onE (fnum : Nat) : E := .fn (.func fnum) [] [.ptr 0 0, .ptr 1 0, .ptr 2 0, .ptr 3 0]
def σ5 (fnum : Nat) (f : Fl) (sum : List T) (ks : List (Nat × List Int)) (xs : List T) (clk : Nat) : List AO :=
  [.cells [.t (tBch f)], .cells (sum.map .t), .cells [.map 4], .cells [onE fnum], .map shA ks xs clk]

/-- The same over whatever store. -/
theorem lend5 {fnum : Nat} {f : Fl} {sum : List T} {OK : List (Nat × List Int) → List T → Prop} {ks : List (Nat × List Int)} {xs : List T} {clk : Nat} {x v : T}
    (h : ACall Tryd.prog fnum [.t x, .ptr 0 0, .ptr 1 0, .ptr 2 0, .ptr 3 0] (σ5 fnum f sum ks xs clk) fun o σ' => o = .ret (.t v) ∧ ∃ ks' xs' clk', OK ks' xs' ∧ σ' = σ5 fnum f sum ks' xs' clk')
    {a b c d e : Nat} {σ : List AO} {R : Lz (Out → List AO → Prop)} (hnd : [a, b, c, d, e].Nodup) (ha : σ[a]? = some (.cells [.t (tBch f)])) (hb : σ[b]? = some (.cells (sum.map .t))) (hc : σ[c]? = some (.cells [.map e]))
    (hd : σ[d]? = some (.cells [.fn (.func fnum) [] [.ptr a 0, .ptr b 0, .ptr c 0, .ptr d 0]])) (he : σ[e]? = some (.map shA ks xs clk))
    (hk : ∀ ks' xs' clk', OK ks' xs' → R.get (.ret (.t v)) (σ.set e (.map shA ks' xs' clk'))) : @ACallL Tryd.prog fnum [.t x, .ptr a 0, .ptr b 0, .ptr c 0, .ptr d 0] σ R := by
  have hal := (List.getElem?_eq_some_iff.1 ha).1
  have hbl := (List.getElem?_eq_some_iff.1 hb).1
  have hcl := (List.getElem?_eq_some_iff.1 hc).1
  have hdl := (List.getElem?_eq_some_iff.1 hd).1
  have hel := (List.getElem?_eq_some_iff.1 he).1
  have e0 : lendR [a, b, c, d, e] σ.length 0 = a := rfl
  have e1 : lendR [a, b, c, d, e] σ.length 1 = b := rfl
  have e2 : lendR [a, b, c, d, e] σ.length 2 = c := rfl
  have e3 : lendR [a, b, c, d, e] σ.length 3 = d := rfl
  have e4 : lendR [a, b, c, d, e] σ.length 4 = e := rfl
  have es : ∀ (ρ : Nat → Nat) (l : List T), E.rens ρ (l.map .t) = l.map .t := fun ρ l => by rw [E.rens_map, List.map_map]; rfl
  have hlt : ∀ k ∈ [a, b, c, d, e], k < σ.length := by simp; omega
  refine ACall.mono (ACall.lend [a, b, c, d, e] h hnd hlt rfl (fun i o ho => ?_) (args := [.t x, .ptr a 0, .ptr b 0, .ptr c 0, .ptr d 0]) (by simp [E.rens_map, E.ren, e0, e1, e2, e3])) ?_
  · match i, ho with
    | 0, ho => simp [σ5] at ho; subst ho; rw [e0, ha]; simp [AO.ren, E.rens, E.ren]
    | 1, ho => simp [σ5] at ho; subst ho; rw [e1, hb]; simp [AO.ren, es]
    | 2, ho => simp [σ5] at ho; subst ho; rw [e2, hc]; simp [AO.ren, E.rens, E.ren, e4]
    | 3, ho => simp [σ5] at ho; subst ho; rw [e3, hd]; simp [AO.ren, E.rens, E.ren, onE, e0, e1, e2, e3]
    | 4, ho => simp [σ5] at ho; subst ho; rw [e4, he]; simp [AO.ren]
  · rintro o σ1 ⟨o0, σ0, ⟨rfl, ks', xs', clk', hOK, rfl⟩, _, rfl, rfl⟩
    have := hk ks' xs' clk' hOK
    have hs : lendB σ [a, b, c, d, e] ((σ5 fnum f sum ks' xs' clk').map (AO.ren (lendR [a, b, c, d, e] σ.length))) = σ.set e (.map shA ks' xs' clk') := by
      apply List.ext_getElem?
      intro i
      by_cases hi : i ∈ [a, b, c, d, e]
      · obtain ⟨j, hj⟩ := List.getElem?_of_mem hi
        rw [lendB_kept (by simp [σ5]) hnd hlt hj]
        simp only [List.nodup_cons, List.mem_cons, List.not_mem_nil, or_false, not_or, List.nodup_nil, and_true] at hnd
        match j, hj with
        | 0, hj => simp at hj; subst hj; rw [List.getElem?_set_ne (by omega), ha]; simp [σ5, AO.ren, E.rens, E.ren]
        | 1, hj => simp at hj; subst hj; rw [List.getElem?_set_ne (by omega), hb]; simp [σ5, AO.ren, es]
        | 2, hj => simp at hj; subst hj; rw [List.getElem?_set_ne (by omega), hc]; simp [σ5, AO.ren, E.rens, E.ren, e4]
        | 3, hj => simp at hj; subst hj; rw [List.getElem?_set_ne (by omega), hd]; simp [σ5, AO.ren, E.rens, E.ren, onE, e0, e1, e2, e3]
        | 4, hj => simp at hj; subst hj; rw [List.getElem?_set_self hel]; simp [σ5, AO.ren]
        | j + 5, hj => simp at hj
      · by_cases hil : i < σ.length
        · rw [lendB_other hil hi, List.getElem?_set_ne (fun e' => hi (by simp [e']))]
        · rw [List.getElem?_eq_none (by rw [lendB_length (by simp [σ5])]; simp [σ5]; omega), List.getElem?_eq_none (by rw [List.length_set]; omega)]
    rw [hs]
    exact this
end Go.Proofs.YtkbjodmpmmnhgaaDoor

/- In how many ways: the closure that calls itself. -/
namespace Go.Proofs.YtkbjodmpmmnhgaaDoor
open Go Go.Ab

/-- What is known of an hour, as a struct. -/
def kI : Option Int → List T
  | none => [vi 0, vb false]
  | some n => [vi n, vb true]
def gI (f : Fl) (tl : Tl) (h : Nat) (p : Pole) : T := .agg (kI (waysV f tl (f.hs.length - h) h p))
def sumI (tl : Tl) : List T := [vi 1, .fn (.func 78) [] [.ptr (.agg [tTl tl]) 0], .fn (.func 79) [] []]

def invI (f : Fl) (tl : Tl) (p : Pole) (h l : Nat) (j : Nat) (σ : List AO) : Prop :=
  ∃ ks xs clk, MapOK f.hs.length (gI f tl) ks xs ∧ σ = σ5 85 f (sumI tl) ks xs clk ++ [.cells [.t (vb p.1), .t (vi p.2), .t (vi h)], .cells [.t (vi 0), .t (vb false)], .cells ((kI (foldS (waysV f tl l (h + 1)) (stI tl h) (· + ·) ((stepsL f p h).take j))).map .t)]

theorem ofV_step (s : Step) : T.ofV (vStep s) = tStep s := rfl
theorem toKey_at (u : Bool) (c : Int) (h : Nat) : toKey (some [none, some .i64, some .i64], none) (.t (.agg [vb u, vi c, vi h])) = some (keyA (u, c) h) := rfl

set_option maxRecDepth 8000 in
set_option maxHeartbeats 4000000 in
theorem onI_ok (f : Fl) (hf : f.OK) (tl : Tl) : ∀ (l h : Nat) (p : Pole) (ks : List (Nat × List Int)) (xs : List T) (clk : Nat), h + l = f.hs.length → 0 ≤ p.2 ∧ p.2 ≤ h → MapOK f.hs.length (gI f tl) ks xs →
    ACall Tryd.prog 85 [.t (.agg [vb p.1, vi p.2, vi h]), .ptr 0 0, .ptr 1 0, .ptr 2 0, .ptr 3 0] (σ5 85 f (sumI tl) ks xs clk) fun o σ' => o = .ret (.t (.agg (kI (waysV f tl l h p)))) ∧ ∃ ks' xs' clk', MapOK f.hs.length (gI f tl) ks' xs' ∧ σ' = σ5 85 f (sumI tl) ks' xs' clk' := by
  intro l
  have hn := hf.nh
  induction l with
  | zero =>
    intro h p ks xs clk hl hp M
    obtain ⟨u, c⟩ := p
    have hh : ((h : Int) == f.hs.length) = true := by rw [beq_iff_eq]; omega
    refine ACall.walk k85 ?_
    unfold c85
    simp only [σ5, sumI, onE, tBch, go_sem, Nat.reduceEqDiff, Nat.reduceAdd, Nat.reduceSub, Nat.reduceMul, Nat.reduceLT, Nat.reduceLeDiff, Nat.reduceMod, Nat.reduceDiv, Int.reduceToNat, Int.reduceLT, Int.reduceLE, Bool.not_true, Bool.not_false, reduceIte, Int.reduceEq, Int.reduceBEq, Int.reduceBNe, Int.reduceGT, Int.reduceGE, Int.reduceNeg, Int.reduceAdd, Int.reduceSub, Nat.reduceBEq, decide_true, decide_false, undef, beq_self_eq_true, bne_self_eq_false, Bool.and_true, Bool.true_and, Bool.and_false, Bool.false_and, Bool.or_true, Bool.true_or, Bool.or_false, Bool.false_or, cellsB_3, List.length_map, hh]
    refine finL_ret [0, 1, 2, 3, 4] ⟨rfl, rfl, rfl, rfl, _, rfl, rfl, ks, xs, clk, M, rfl⟩
  | succ l ih =>
    intro h p ks xs clk hl hp M
    obtain ⟨u, c⟩ := p
    simp only at hp
    have hh : ((h : Int) == f.hs.length) = false := by rw [beq_eq_false_iff_ne]; omega
    have hg : gI f tl h (u, c) = .agg (kI (waysV f tl (l + 1) h (u, c))) := by unfold gI; rw [show f.hs.length - h = l + 1 by omega]
    refine ACall.walk k85 ?_
    unfold c85
    simp only [σ5, sumI, onE, tBch, go_sem, Nat.reduceEqDiff, Nat.reduceAdd, Nat.reduceSub, Nat.reduceMul, Nat.reduceLT, Nat.reduceLeDiff, Nat.reduceMod, Nat.reduceDiv, Int.reduceToNat, Int.reduceLT, Int.reduceLE, Bool.not_true, Bool.not_false, reduceIte, Int.reduceEq, Int.reduceBEq, Int.reduceBNe, Int.reduceGT, Int.reduceGE, Int.reduceNeg, Int.reduceAdd, Int.reduceSub, Nat.reduceBEq, decide_true, decide_false, undef, beq_self_eq_true, bne_self_eq_false, Bool.and_true, Bool.true_and, Bool.and_false, Bool.false_and, Bool.or_true, Bool.true_or, Bool.or_false, Bool.false_or, cellsB_3, List.length_map, hh, mapOf?, toKey_at]
    cases hk : kfind (some [none, some IntKind.i64, some IntKind.i64], none) ks (keyA (u, c) h) with
    | some i =>
      have hx := M.find hk
      rw [hg] at hx
      cases hv : waysV f tl (l + 1) h (u, c) with
      | none =>
        rw [hv] at hx
        simp only [kI] at hx
        simp only [hx, go_sem, Nat.reduceEqDiff, Nat.reduceAdd, Nat.reduceSub, Nat.reduceMul, Nat.reduceLT, Nat.reduceLeDiff, Nat.reduceMod, Nat.reduceDiv, Int.reduceToNat, Int.reduceLT, Int.reduceLE, Bool.not_true, Bool.not_false, reduceIte, Int.reduceEq, Int.reduceBEq, Int.reduceBNe, Int.reduceGT, Int.reduceGE, Int.reduceNeg, Int.reduceAdd, Int.reduceSub, Nat.reduceBEq, decide_true, decide_false, undef, beq_self_eq_true, bne_self_eq_false, Bool.and_true, Bool.true_and, Bool.and_false, Bool.false_and, Bool.or_true, Bool.true_or, Bool.or_false, Bool.false_or]
        refine finL_ret [0, 1, 2, 3, 4] ⟨rfl, rfl, rfl, rfl, _, rfl, rfl, ks, xs, clk, M, rfl⟩
      | some n =>
        rw [hv] at hx
        simp only [kI] at hx
        simp only [hx, go_sem, Nat.reduceEqDiff, Nat.reduceAdd, Nat.reduceSub, Nat.reduceMul, Nat.reduceLT, Nat.reduceLeDiff, Nat.reduceMod, Nat.reduceDiv, Int.reduceToNat, Int.reduceLT, Int.reduceLE, Bool.not_true, Bool.not_false, reduceIte, Int.reduceEq, Int.reduceBEq, Int.reduceBNe, Int.reduceGT, Int.reduceGE, Int.reduceNeg, Int.reduceAdd, Int.reduceSub, Nat.reduceBEq, decide_true, decide_false, undef, beq_self_eq_true, bne_self_eq_false, Bool.and_true, Bool.true_and, Bool.and_false, Bool.false_and, Bool.or_true, Bool.true_or, Bool.or_false, Bool.false_or]
        refine finL_ret [0, 1, 2, 3, 4] ⟨rfl, rfl, rfl, rfl, _, rfl, rfl, ks, xs, clk, M, rfl⟩
    | none =>
      simp only [zeroT, go_sem, Nat.reduceEqDiff, Nat.reduceAdd, Nat.reduceSub, Nat.reduceMul, Nat.reduceLT, Nat.reduceLeDiff, Nat.reduceMod, Nat.reduceDiv, Int.reduceToNat, Int.reduceLT, Int.reduceLE, Bool.not_true, Bool.not_false, reduceIte, Int.reduceEq, Int.reduceBEq, Int.reduceBNe, Int.reduceGT, Int.reduceGE, Int.reduceNeg, Int.reduceAdd, Int.reduceSub, Nat.reduceBEq, decide_true, decide_false, undef, beq_self_eq_true, bne_self_eq_false, Bool.and_true, Bool.true_and, Bool.and_false, Bool.false_and, Bool.or_true, Bool.true_or, Bool.or_false, Bool.false_or]
      refine ACallL.fresh1 (steps_ok f (u, c) h) rfl ?_
      simp only [tSteps, go_sem, Nat.reduceEqDiff, Nat.reduceAdd, Nat.reduceSub, Nat.reduceMul, Nat.reduceLT, Nat.reduceLeDiff, Nat.reduceMod, Nat.reduceDiv, Int.reduceToNat, Int.reduceLT, Int.reduceLE, Bool.not_true, Bool.not_false, reduceIte, Int.reduceEq, Int.reduceBEq, Int.reduceBNe, Int.reduceGT, Int.reduceGE, Int.reduceNeg, Int.reduceAdd, Int.reduceSub, Nat.reduceBEq, decide_true, decide_false, undef, beq_self_eq_true, bne_self_eq_false, Bool.and_true, Bool.true_and, Bool.and_false, Bool.false_and, Bool.or_true, Bool.true_or, Bool.or_false, Bool.false_or]
      refine awpL_rangeF2 (f := 87) (fs := []) (cs := [.ptr (.agg [tBch f]) 0, .ptr (.agg [vi h]) 0, .ptr (tPole (u, c)) 0]) ((stepsL f (u, c) h).map vStep) (invI f tl (u, c) h l) [0, 1, 2, 3, 4, 5, 6, 8] [2, 3, 4, 5, 6, 9]
        [(2, .ptr 1 0), (3, .ptr 2 0), (4, .ptr 3 0), (5, .ptr 5 0), (6, .ptr 6 0), (9, .ptr 7 0)] [] rfl rfl rfl rfl (steps_gen f (u, c) h (by omega) (by simp only; omega)) rfl rfl ⟨ks, xs, clk, M, rfl⟩ ?_ ?_
      · rintro l' j v σ hj ⟨ks', xs', clk', M', rfl⟩
        rw [List.getElem?_map] at hj
        obtain ⟨s, hs, rfl⟩ := Option.map_eq_some_iff.1 hj
        have htk : (stepsL f (u, c) h).take (j + 1) = (stepsL f (u, c) h).take j ++ [s] := by rw [List.take_add_one, hs]; rfl
        have hmem := List.mem_of_getElem? hs
        have hcalm := step_calm hmem (p := (u, c)) (n := h) (by simp only; omega)
        have hnext := ih (h + 1) s.1 ks' xs' clk' (by omega) hcalm M'
        have hfl := foldI_le (waysV f tl l (h + 1)) tl h 19683 (fun p v e => by
          have h1 := waysV_le f tl l (h + 1) p v e
          have h2 := pow3_le (l := l) (by omega)
          omega) (by omega) ((stepsL f (u, c) h).take j)
        have hlen : ((stepsL f (u, c) h).take j).length ≤ 3 := by
          have := stepsL_len f (u, c) h
          rw [List.length_take]
          omega
        have hw : IntKind.i64.wrap ((h : Int) + 1) = ((h + 1 : Nat) : Int) := by rw [wrap_id (by omega) (by omega)]; omega
        have hacc := foldS_snoc (waysV f tl l (h + 1)) (stI tl h) (· + ·) ((stepsL f (u, c) h).take j) s
        rw [← htk] at hacc
        have hvle := fun v e => waysV_le f tl l (h + 1) s.1 v e
        have h3l := pow3_le (l := l) (by omega)
        have hst := fun r => stepI_ok tl s h r
        have hinv : ∀ (ks : List (Nat × List Int)) (xs : List T) (clk : Nat), MapOK f.hs.length (gI f tl) ks xs → invI f tl (u, c) h l (j + 1) (σ5 85 f (sumI tl) ks xs clk ++ [.cells [.t (vb u), .t (vi c), .t (vi h)], .cells [.t (vi 0), .t (vb false)], .cells ((kI (stepAcc (waysV f tl l (h + 1)) (stI tl h) (· + ·) (foldS (waysV f tl l (h + 1)) (stI tl h) (· + ·) ((stepsL f (u, c) h).take j)) s)).map .t)]) :=
          fun ks xs clk M => ⟨ks, xs, clk, M, by rw [hacc]⟩
        clear hacc htk hj hs hmem ih
        generalize foldS (waysV f tl l (h + 1)) (stI tl h) (· + ·) ((stepsL f (u, c) h).take j) = acc at *
        unfold stepAcc at hinv
        generalize waysV f tl l (h + 1) s.1 = val at *
        obtain ⟨⟨q1, q2⟩, up, k⟩ := s
        rw [ofV_step]
        simp only [tStep, σ5, onE, sumI, go_sem, Nat.reduceEqDiff, Nat.reduceAdd, Nat.reduceSub, Nat.reduceMul, Nat.reduceLT, Nat.reduceLeDiff, Nat.reduceMod, Nat.reduceDiv, Int.reduceToNat, Int.reduceLT, Int.reduceLE, Bool.not_true, Bool.not_false, reduceIte, Int.reduceEq, Int.reduceBEq, Int.reduceBNe, Int.reduceGT, Int.reduceGE, Int.reduceNeg, Int.reduceAdd, Int.reduceSub, Nat.reduceBEq, decide_true, decide_false, undef, beq_self_eq_true, bne_self_eq_false, Bool.and_true, Bool.true_and, Bool.and_false, Bool.false_and, Bool.or_true, Bool.true_or, Bool.or_false, Bool.false_or, hw]
        have hvals : ∀ (u c h : T), T.agg [u, c, h] = T.agg [u, c, h] := fun _ _ _ => rfl
        refine lend5 (sum := sumI tl) hnext (by decide) rfl rfl rfl rfl rfl fun ks2 xs2 clk2 M2 => ?_
        cases hval : val with
        | none =>
          subst hval
          simp only [kI, go_sem, Nat.reduceEqDiff, Nat.reduceAdd, Nat.reduceSub, Nat.reduceMul, Nat.reduceLT, Nat.reduceLeDiff, Nat.reduceMod, Nat.reduceDiv, Int.reduceToNat, Int.reduceLT, Int.reduceLE, Bool.not_true, Bool.not_false, reduceIte, Int.reduceEq, Int.reduceBEq, Int.reduceBNe, Int.reduceGT, Int.reduceGE, Int.reduceNeg, Int.reduceAdd, Int.reduceSub, Nat.reduceBEq, decide_true, decide_false, undef, beq_self_eq_true, bne_self_eq_false, Bool.and_true, Bool.true_and, Bool.and_false, Bool.false_and, Bool.or_true, Bool.true_or, Bool.or_false, Bool.false_or]
          refine ⟨[0, 1, 2, 3, 4, 5, 6, 7], rfl, rfl, ?_⟩
          have := hinv ks2 xs2 clk2 M2
          cases acc <;> exact this
        | some r =>
          subst hval
          have hr := hvle r rfl
          simp only [kI, go_sem, Nat.reduceEqDiff, Nat.reduceAdd, Nat.reduceSub, Nat.reduceMul, Nat.reduceLT, Nat.reduceLeDiff, Nat.reduceMod, Nat.reduceDiv, Int.reduceToNat, Int.reduceLT, Int.reduceLE, Bool.not_true, Bool.not_false, reduceIte, Int.reduceEq, Int.reduceBEq, Int.reduceBNe, Int.reduceGT, Int.reduceGE, Int.reduceNeg, Int.reduceAdd, Int.reduceSub, Nat.reduceBEq, decide_true, decide_false, undef, beq_self_eq_true, bne_self_eq_false, Bool.and_true, Bool.true_and, Bool.and_false, Bool.false_and, Bool.or_true, Bool.true_or, Bool.or_false, Bool.false_or]
          refine ACallL.quiet1 (hst r (by omega)) rfl rfl rfl ?_
          have hi := hinv ks2 xs2 clk2 M2
          have hs' := stI_le tl h ((q1, q2), up, k) (M := 19683) (r := r) (by omega)
          cases hacc : acc with
          | none =>
            subst hacc
            simp only [go_sem, Nat.reduceEqDiff, Nat.reduceAdd, Nat.reduceSub, Nat.reduceMul, Nat.reduceLT, Nat.reduceLeDiff, Nat.reduceMod, Nat.reduceDiv, Int.reduceToNat, Int.reduceLT, Int.reduceLE, Bool.not_true, Bool.not_false, reduceIte, Int.reduceEq, Int.reduceBEq, Int.reduceBNe, Int.reduceGT, Int.reduceGE, Int.reduceNeg, Int.reduceAdd, Int.reduceSub, Nat.reduceBEq, decide_true, decide_false, undef, beq_self_eq_true, bne_self_eq_false, Bool.and_true, Bool.true_and, Bool.and_false, Bool.false_and, Bool.or_true, Bool.true_or, Bool.or_false, Bool.false_or]
            exact ⟨[0, 1, 2, 3, 4, 5, 6, 7], rfl, rfl, hi⟩
          | some a =>
            subst hacc
            have ha := hfl a rfl
            simp only [go_sem, Nat.reduceEqDiff, Nat.reduceAdd, Nat.reduceSub, Nat.reduceMul, Nat.reduceLT, Nat.reduceLeDiff, Nat.reduceMod, Nat.reduceDiv, Int.reduceToNat, Int.reduceLT, Int.reduceLE, Bool.not_true, Bool.not_false, reduceIte, Int.reduceEq, Int.reduceBEq, Int.reduceBNe, Int.reduceGT, Int.reduceGE, Int.reduceNeg, Int.reduceAdd, Int.reduceSub, Nat.reduceBEq, decide_true, decide_false, undef, beq_self_eq_true, bne_self_eq_false, Bool.and_true, Bool.true_and, Bool.and_false, Bool.false_and, Bool.or_true, Bool.true_or, Bool.or_false, Bool.false_or]
            refine ACallL.quiet1 (joinI_ok a (stI tl h ((q1, q2), up, k) r) (by omega) (by omega)) rfl rfl rfl ?_
            simp only [go_sem, Nat.reduceEqDiff, Nat.reduceAdd, Nat.reduceSub, Nat.reduceMul, Nat.reduceLT, Nat.reduceLeDiff, Nat.reduceMod, Nat.reduceDiv, Int.reduceToNat, Int.reduceLT, Int.reduceLE, Bool.not_true, Bool.not_false, reduceIte, Int.reduceEq, Int.reduceBEq, Int.reduceBNe, Int.reduceGT, Int.reduceGE, Int.reduceNeg, Int.reduceAdd, Int.reduceSub, Nat.reduceBEq, decide_true, decide_false, undef, beq_self_eq_true, bne_self_eq_false, Bool.and_true, Bool.true_and, Bool.and_false, Bool.false_and, Bool.or_true, Bool.true_or, Bool.or_false, Bool.false_or]
            exact ⟨[0, 1, 2, 3, 4, 5, 6, 7], rfl, rfl, hi⟩
      · rintro σ ⟨ks', xs', clk', M', rfl⟩
        rw [List.length_map, List.take_length]
        have hfin : foldS (waysV f tl l (h + 1)) (stI tl h) (· + ·) (stepsL f (u, c) h) = waysV f tl (l + 1) h (u, c) := rfl
        rw [hfin]
        rw [hfin] at *
        generalize waysV f tl (l + 1) h (u, c) = v at *
        cases v with
        | none =>
          simp only [kI, σ5, sumI, onE, go_sem, Nat.reduceEqDiff, Nat.reduceAdd, Nat.reduceSub, Nat.reduceMul, Nat.reduceLT, Nat.reduceLeDiff, Nat.reduceMod, Nat.reduceDiv, Int.reduceToNat, Int.reduceLT, Int.reduceLE, Bool.not_true, Bool.not_false, reduceIte, Int.reduceEq, Int.reduceBEq, Int.reduceBNe, Int.reduceGT, Int.reduceGE, Int.reduceNeg, Int.reduceAdd, Int.reduceSub, Nat.reduceBEq, decide_true, decide_false, undef, beq_self_eq_true, bne_self_eq_false, Bool.and_true, Bool.true_and, Bool.and_false, Bool.false_and, Bool.or_true, Bool.true_or, Bool.or_false, Bool.false_or, toKey_at]
          cases hk2 : kfind (some [none, some IntKind.i64, some IntKind.i64], none) ks' (keyA (u, c) h) with
          | some i =>
            simp only [go_sem, Nat.reduceEqDiff, Nat.reduceAdd, Nat.reduceSub, Nat.reduceMul, Nat.reduceLT, Nat.reduceLeDiff, Nat.reduceMod, Nat.reduceDiv, Int.reduceToNat, Int.reduceLT, Int.reduceLE, Bool.not_true, Bool.not_false, reduceIte, Int.reduceEq, Int.reduceBEq, Int.reduceBNe, Int.reduceGT, Int.reduceGE, Int.reduceNeg, Int.reduceAdd, Int.reduceSub, Nat.reduceBEq, decide_true, decide_false, undef, beq_self_eq_true, bne_self_eq_false, Bool.and_true, Bool.true_and, Bool.and_false, Bool.false_and, Bool.or_true, Bool.true_or, Bool.or_false, Bool.false_or]
            have M2 := M'.put hk2
            rw [hg] at M2
            exact finL_ret [0, 1, 2, 3, 4] ⟨rfl, rfl, rfl, rfl, _, rfl, rfl, _, _, _, M2, rfl⟩
          | none =>
            simp only [go_sem, Nat.reduceEqDiff, Nat.reduceAdd, Nat.reduceSub, Nat.reduceMul, Nat.reduceLT, Nat.reduceLeDiff, Nat.reduceMod, Nat.reduceDiv, Int.reduceToNat, Int.reduceLT, Int.reduceLE, Bool.not_true, Bool.not_false, reduceIte, Int.reduceEq, Int.reduceBEq, Int.reduceBNe, Int.reduceGT, Int.reduceGE, Int.reduceNeg, Int.reduceAdd, Int.reduceSub, Nat.reduceBEq, decide_true, decide_false, undef, beq_self_eq_true, bne_self_eq_false, Bool.and_true, Bool.true_and, Bool.and_false, Bool.false_and, Bool.or_true, Bool.true_or, Bool.or_false, Bool.false_or]
            have M2 := M'.new (p := (u, c)) (h := h) (clk := clk') (by omega)
            rw [hg] at M2
            exact finL_ret [0, 1, 2, 3, 4] ⟨rfl, rfl, rfl, rfl, _, rfl, rfl, _, _, _, M2, rfl⟩
        | some n =>
          simp only [kI, σ5, sumI, onE, go_sem, Nat.reduceEqDiff, Nat.reduceAdd, Nat.reduceSub, Nat.reduceMul, Nat.reduceLT, Nat.reduceLeDiff, Nat.reduceMod, Nat.reduceDiv, Int.reduceToNat, Int.reduceLT, Int.reduceLE, Bool.not_true, Bool.not_false, reduceIte, Int.reduceEq, Int.reduceBEq, Int.reduceBNe, Int.reduceGT, Int.reduceGE, Int.reduceNeg, Int.reduceAdd, Int.reduceSub, Nat.reduceBEq, decide_true, decide_false, undef, beq_self_eq_true, bne_self_eq_false, Bool.and_true, Bool.true_and, Bool.and_false, Bool.false_and, Bool.or_true, Bool.true_or, Bool.or_false, Bool.false_or, toKey_at]
          cases hk2 : kfind (some [none, some IntKind.i64, some IntKind.i64], none) ks' (keyA (u, c) h) with
          | some i =>
            simp only [go_sem, Nat.reduceEqDiff, Nat.reduceAdd, Nat.reduceSub, Nat.reduceMul, Nat.reduceLT, Nat.reduceLeDiff, Nat.reduceMod, Nat.reduceDiv, Int.reduceToNat, Int.reduceLT, Int.reduceLE, Bool.not_true, Bool.not_false, reduceIte, Int.reduceEq, Int.reduceBEq, Int.reduceBNe, Int.reduceGT, Int.reduceGE, Int.reduceNeg, Int.reduceAdd, Int.reduceSub, Nat.reduceBEq, decide_true, decide_false, undef, beq_self_eq_true, bne_self_eq_false, Bool.and_true, Bool.true_and, Bool.and_false, Bool.false_and, Bool.or_true, Bool.true_or, Bool.or_false, Bool.false_or]
            have M2 := M'.put hk2
            rw [hg] at M2
            exact finL_ret [0, 1, 2, 3, 4] ⟨rfl, rfl, rfl, rfl, _, rfl, rfl, _, _, _, M2, rfl⟩
          | none =>
            simp only [go_sem, Nat.reduceEqDiff, Nat.reduceAdd, Nat.reduceSub, Nat.reduceMul, Nat.reduceLT, Nat.reduceLeDiff, Nat.reduceMod, Nat.reduceDiv, Int.reduceToNat, Int.reduceLT, Int.reduceLE, Bool.not_true, Bool.not_false, reduceIte, Int.reduceEq, Int.reduceBEq, Int.reduceBNe, Int.reduceGT, Int.reduceGE, Int.reduceNeg, Int.reduceAdd, Int.reduceSub, Nat.reduceBEq, decide_true, decide_false, undef, beq_self_eq_true, bne_self_eq_false, Bool.and_true, Bool.true_and, Bool.and_false, Bool.false_and, Bool.or_true, Bool.true_or, Bool.or_false, Bool.false_or]
            have M2 := M'.new (p := (u, c)) (h := h) (clk := clk') (by omega)
            rw [hg] at M2
            exact finL_ret [0, 1, 2, 3, 4] ⟨rfl, rfl, rfl, rfl, _, rfl, rfl, _, _, _, M2, rfl⟩
end Go.Proofs.YtkbjodmpmmnhgaaDoor

/- How long: the closure that calls itself. -/
namespace Go.Proofs.YtkbjodmpmmnhgaaDoor
open Go Go.Ab

/-- What is known of an hour, as a struct. -/
def kS : Option (Int × Int) → List T
  | none => [vi 0, vi 0, vb false]
  | some n => [vi n.1, vi n.2, vb true]
def gS (f : Fl) (tl : Tl) (h : Nat) (p : Pole) : T := .agg (kS (spanV f tl (f.hs.length - h) h p))
def sumS (tl : Tl) : List T := [vi 0, vi 0, .fn (.func 73) [] [.ptr (.agg [tTl tl]) 0], .fn (.func 74) [] []]

def invS (f : Fl) (tl : Tl) (p : Pole) (h l : Nat) (j : Nat) (σ : List AO) : Prop :=
  ∃ ks xs clk, MapOK f.hs.length (gS f tl) ks xs ∧ σ = σ5 83 f (sumS tl) ks xs clk ++ [.cells [.t (vb p.1), .t (vi p.2), .t (vi h)], .cells [.t (vi 0), .t (vi 0), .t (vb false)], .cells ((kS (foldS (spanV f tl l (h + 1)) (stS tl h) jnS ((stepsL f p h).take j))).map .t)]


set_option maxRecDepth 8000 in
set_option maxHeartbeats 4000000 in
theorem onS_ok (f : Fl) (hf : f.OK) (tl : Tl) : ∀ (l h : Nat) (p : Pole) (ks : List (Nat × List Int)) (xs : List T) (clk : Nat), h + l = f.hs.length → 0 ≤ p.2 ∧ p.2 ≤ h → MapOK f.hs.length (gS f tl) ks xs →
    ACall Tryd.prog 83 [.t (.agg [vb p.1, vi p.2, vi h]), .ptr 0 0, .ptr 1 0, .ptr 2 0, .ptr 3 0] (σ5 83 f (sumS tl) ks xs clk) fun o σ' => o = .ret (.t (.agg (kS (spanV f tl l h p)))) ∧ ∃ ks' xs' clk', MapOK f.hs.length (gS f tl) ks' xs' ∧ σ' = σ5 83 f (sumS tl) ks' xs' clk' := by
  intro l
  have hn := hf.nh
  induction l with
  | zero =>
    intro h p ks xs clk hl hp M
    obtain ⟨u, c⟩ := p
    have hh : ((h : Int) == f.hs.length) = true := by rw [beq_iff_eq]; omega
    refine ACall.walk k83 ?_
    unfold c83
    simp only [σ5, sumS, onE, tBch, go_sem, Nat.reduceEqDiff, Nat.reduceAdd, Nat.reduceSub, Nat.reduceMul, Nat.reduceLT, Nat.reduceLeDiff, Nat.reduceMod, Nat.reduceDiv, Int.reduceToNat, Int.reduceLT, Int.reduceLE, Bool.not_true, Bool.not_false, reduceIte, Int.reduceEq, Int.reduceBEq, Int.reduceBNe, Int.reduceGT, Int.reduceGE, Int.reduceNeg, Int.reduceAdd, Int.reduceSub, Nat.reduceBEq, decide_true, decide_false, undef, beq_self_eq_true, bne_self_eq_false, Bool.and_true, Bool.true_and, Bool.and_false, Bool.false_and, Bool.or_true, Bool.true_or, Bool.or_false, Bool.false_or, cellsB_3, List.length_map, hh]
    refine finL_ret [0, 1, 2, 3, 4] ⟨rfl, rfl, rfl, rfl, _, rfl, rfl, ks, xs, clk, M, rfl⟩
  | succ l ih =>
    intro h p ks xs clk hl hp M
    obtain ⟨u, c⟩ := p
    simp only at hp
    have hh : ((h : Int) == f.hs.length) = false := by rw [beq_eq_false_iff_ne]; omega
    have hg : gS f tl h (u, c) = .agg (kS (spanV f tl (l + 1) h (u, c))) := by unfold gS; rw [show f.hs.length - h = l + 1 by omega]
    refine ACall.walk k83 ?_
    unfold c83
    simp only [σ5, sumS, onE, tBch, go_sem, Nat.reduceEqDiff, Nat.reduceAdd, Nat.reduceSub, Nat.reduceMul, Nat.reduceLT, Nat.reduceLeDiff, Nat.reduceMod, Nat.reduceDiv, Int.reduceToNat, Int.reduceLT, Int.reduceLE, Bool.not_true, Bool.not_false, reduceIte, Int.reduceEq, Int.reduceBEq, Int.reduceBNe, Int.reduceGT, Int.reduceGE, Int.reduceNeg, Int.reduceAdd, Int.reduceSub, Nat.reduceBEq, decide_true, decide_false, undef, beq_self_eq_true, bne_self_eq_false, Bool.and_true, Bool.true_and, Bool.and_false, Bool.false_and, Bool.or_true, Bool.true_or, Bool.or_false, Bool.false_or, cellsB_3, List.length_map, hh, mapOf?, toKey_at]
    cases hk : kfind (some [none, some IntKind.i64, some IntKind.i64], none) ks (keyA (u, c) h) with
    | some i =>
      have hx := M.find hk
      rw [hg] at hx
      cases hv : spanV f tl (l + 1) h (u, c) with
      | none =>
        rw [hv] at hx
        simp only [kS] at hx
        simp only [hx, go_sem, Nat.reduceEqDiff, Nat.reduceAdd, Nat.reduceSub, Nat.reduceMul, Nat.reduceLT, Nat.reduceLeDiff, Nat.reduceMod, Nat.reduceDiv, Int.reduceToNat, Int.reduceLT, Int.reduceLE, Bool.not_true, Bool.not_false, reduceIte, Int.reduceEq, Int.reduceBEq, Int.reduceBNe, Int.reduceGT, Int.reduceGE, Int.reduceNeg, Int.reduceAdd, Int.reduceSub, Nat.reduceBEq, decide_true, decide_false, undef, beq_self_eq_true, bne_self_eq_false, Bool.and_true, Bool.true_and, Bool.and_false, Bool.false_and, Bool.or_true, Bool.true_or, Bool.or_false, Bool.false_or]
        refine finL_ret [0, 1, 2, 3, 4] ⟨rfl, rfl, rfl, rfl, _, rfl, rfl, ks, xs, clk, M, rfl⟩
      | some n =>
        rw [hv] at hx
        simp only [kS] at hx
        simp only [hx, go_sem, Nat.reduceEqDiff, Nat.reduceAdd, Nat.reduceSub, Nat.reduceMul, Nat.reduceLT, Nat.reduceLeDiff, Nat.reduceMod, Nat.reduceDiv, Int.reduceToNat, Int.reduceLT, Int.reduceLE, Bool.not_true, Bool.not_false, reduceIte, Int.reduceEq, Int.reduceBEq, Int.reduceBNe, Int.reduceGT, Int.reduceGE, Int.reduceNeg, Int.reduceAdd, Int.reduceSub, Nat.reduceBEq, decide_true, decide_false, undef, beq_self_eq_true, bne_self_eq_false, Bool.and_true, Bool.true_and, Bool.and_false, Bool.false_and, Bool.or_true, Bool.true_or, Bool.or_false, Bool.false_or]
        refine finL_ret [0, 1, 2, 3, 4] ⟨rfl, rfl, rfl, rfl, _, rfl, rfl, ks, xs, clk, M, rfl⟩
    | none =>
      simp only [zeroT, go_sem, Nat.reduceEqDiff, Nat.reduceAdd, Nat.reduceSub, Nat.reduceMul, Nat.reduceLT, Nat.reduceLeDiff, Nat.reduceMod, Nat.reduceDiv, Int.reduceToNat, Int.reduceLT, Int.reduceLE, Bool.not_true, Bool.not_false, reduceIte, Int.reduceEq, Int.reduceBEq, Int.reduceBNe, Int.reduceGT, Int.reduceGE, Int.reduceNeg, Int.reduceAdd, Int.reduceSub, Nat.reduceBEq, decide_true, decide_false, undef, beq_self_eq_true, bne_self_eq_false, Bool.and_true, Bool.true_and, Bool.and_false, Bool.false_and, Bool.or_true, Bool.true_or, Bool.or_false, Bool.false_or]
      refine ACallL.fresh1 (steps_ok f (u, c) h) rfl ?_
      simp only [tSteps, go_sem, Nat.reduceEqDiff, Nat.reduceAdd, Nat.reduceSub, Nat.reduceMul, Nat.reduceLT, Nat.reduceLeDiff, Nat.reduceMod, Nat.reduceDiv, Int.reduceToNat, Int.reduceLT, Int.reduceLE, Bool.not_true, Bool.not_false, reduceIte, Int.reduceEq, Int.reduceBEq, Int.reduceBNe, Int.reduceGT, Int.reduceGE, Int.reduceNeg, Int.reduceAdd, Int.reduceSub, Nat.reduceBEq, decide_true, decide_false, undef, beq_self_eq_true, bne_self_eq_false, Bool.and_true, Bool.true_and, Bool.and_false, Bool.false_and, Bool.or_true, Bool.true_or, Bool.or_false, Bool.false_or]
      refine awpL_rangeF2 (f := 87) (fs := []) (cs := [.ptr (.agg [tBch f]) 0, .ptr (.agg [vi h]) 0, .ptr (tPole (u, c)) 0]) ((stepsL f (u, c) h).map vStep) (invS f tl (u, c) h l) [0, 1, 2, 3, 4, 5, 6, 8] [2, 3, 4, 5, 6, 9]
        [(2, .ptr 1 0), (3, .ptr 2 0), (4, .ptr 3 0), (5, .ptr 5 0), (6, .ptr 6 0), (9, .ptr 7 0)] [] rfl rfl rfl rfl (steps_gen f (u, c) h (by omega) (by simp only; omega)) rfl rfl ⟨ks, xs, clk, M, rfl⟩ ?_ ?_
      · rintro l' j v σ hj ⟨ks', xs', clk', M', rfl⟩
        rw [List.getElem?_map] at hj
        obtain ⟨s, hs, rfl⟩ := Option.map_eq_some_iff.1 hj
        have htk : (stepsL f (u, c) h).take (j + 1) = (stepsL f (u, c) h).take j ++ [s] := by rw [List.take_add_one, hs]; rfl
        have hmem := List.mem_of_getElem? hs
        have hcalm := step_calm hmem (p := (u, c)) (n := h) (by simp only; omega)
        have hnext := ih (h + 1) s.1 ks' xs' clk' (by omega) hcalm M'
        have hfl := foldS_le (spanV f tl l (h + 1)) tl h 9 (fun p v e => by
          have h1 := spanV_le f tl l (h + 1) p v e
          omega) ((stepsL f (u, c) h).take j)
        have hlen : ((stepsL f (u, c) h).take j).length ≤ 3 := by
          have := stepsL_len f (u, c) h
          rw [List.length_take]
          omega
        have hw : IntKind.i64.wrap ((h : Int) + 1) = ((h + 1 : Nat) : Int) := by rw [wrap_id (by omega) (by omega)]; omega
        have hacc := foldS_snoc (spanV f tl l (h + 1)) (stS tl h) jnS ((stepsL f (u, c) h).take j) s
        rw [← htk] at hacc
        have hvle := fun v e => spanV_le f tl l (h + 1) s.1 v e
        have hst := fun r1 r2 => stepS_ok tl s h r1 r2
        have hinv : ∀ (ks : List (Nat × List Int)) (xs : List T) (clk : Nat), MapOK f.hs.length (gS f tl) ks xs → invS f tl (u, c) h l (j + 1) (σ5 83 f (sumS tl) ks xs clk ++ [.cells [.t (vb u), .t (vi c), .t (vi h)], .cells [.t (vi 0), .t (vi 0), .t (vb false)], .cells ((kS (stepAcc (spanV f tl l (h + 1)) (stS tl h) jnS (foldS (spanV f tl l (h + 1)) (stS tl h) jnS ((stepsL f (u, c) h).take j)) s)).map .t)]) :=
          fun ks xs clk M => ⟨ks, xs, clk, M, by rw [hacc]⟩
        clear hacc htk hj hs hmem ih
        generalize foldS (spanV f tl l (h + 1)) (stS tl h) jnS ((stepsL f (u, c) h).take j) = acc at *
        unfold stepAcc at hinv
        generalize spanV f tl l (h + 1) s.1 = val at *
        obtain ⟨⟨q1, q2⟩, up, k⟩ := s
        rw [ofV_step]
        simp only [tStep, σ5, onE, sumS, go_sem, Nat.reduceEqDiff, Nat.reduceAdd, Nat.reduceSub, Nat.reduceMul, Nat.reduceLT, Nat.reduceLeDiff, Nat.reduceMod, Nat.reduceDiv, Int.reduceToNat, Int.reduceLT, Int.reduceLE, Bool.not_true, Bool.not_false, reduceIte, Int.reduceEq, Int.reduceBEq, Int.reduceBNe, Int.reduceGT, Int.reduceGE, Int.reduceNeg, Int.reduceAdd, Int.reduceSub, Nat.reduceBEq, decide_true, decide_false, undef, beq_self_eq_true, bne_self_eq_false, Bool.and_true, Bool.true_and, Bool.and_false, Bool.false_and, Bool.or_true, Bool.true_or, Bool.or_false, Bool.false_or, hw]
        have hvals : ∀ (u c h : T), T.agg [u, c, h] = T.agg [u, c, h] := fun _ _ _ => rfl
        refine lend5 (sum := sumS tl) hnext (by decide) rfl rfl rfl rfl rfl fun ks2 xs2 clk2 M2 => ?_
        cases hval : val with
        | none =>
          subst hval
          simp only [kS, go_sem, Nat.reduceEqDiff, Nat.reduceAdd, Nat.reduceSub, Nat.reduceMul, Nat.reduceLT, Nat.reduceLeDiff, Nat.reduceMod, Nat.reduceDiv, Int.reduceToNat, Int.reduceLT, Int.reduceLE, Bool.not_true, Bool.not_false, reduceIte, Int.reduceEq, Int.reduceBEq, Int.reduceBNe, Int.reduceGT, Int.reduceGE, Int.reduceNeg, Int.reduceAdd, Int.reduceSub, Nat.reduceBEq, decide_true, decide_false, undef, beq_self_eq_true, bne_self_eq_false, Bool.and_true, Bool.true_and, Bool.and_false, Bool.false_and, Bool.or_true, Bool.true_or, Bool.or_false, Bool.false_or]
          refine ⟨[0, 1, 2, 3, 4, 5, 6, 7], rfl, rfl, ?_⟩
          have := hinv ks2 xs2 clk2 M2
          cases acc <;> exact this
        | some r =>
          subst hval
          have hr := hvle r rfl
          obtain ⟨r1, r2⟩ := r
          simp only at hr
          simp only [kS, go_sem, Nat.reduceEqDiff, Nat.reduceAdd, Nat.reduceSub, Nat.reduceMul, Nat.reduceLT, Nat.reduceLeDiff, Nat.reduceMod, Nat.reduceDiv, Int.reduceToNat, Int.reduceLT, Int.reduceLE, Bool.not_true, Bool.not_false, reduceIte, Int.reduceEq, Int.reduceBEq, Int.reduceBNe, Int.reduceGT, Int.reduceGE, Int.reduceNeg, Int.reduceAdd, Int.reduceSub, Nat.reduceBEq, decide_true, decide_false, undef, beq_self_eq_true, bne_self_eq_false, Bool.and_true, Bool.true_and, Bool.and_false, Bool.false_and, Bool.or_true, Bool.true_or, Bool.or_false, Bool.false_or]
          refine ACallL.quiet1 (hst r1 r2 (by omega)) rfl rfl rfl ?_
          have hi := hinv ks2 xs2 clk2 M2
          cases hacc : acc with
          | none =>
            subst hacc
            simp only [go_sem, Nat.reduceEqDiff, Nat.reduceAdd, Nat.reduceSub, Nat.reduceMul, Nat.reduceLT, Nat.reduceLeDiff, Nat.reduceMod, Nat.reduceDiv, Int.reduceToNat, Int.reduceLT, Int.reduceLE, Bool.not_true, Bool.not_false, reduceIte, Int.reduceEq, Int.reduceBEq, Int.reduceBNe, Int.reduceGT, Int.reduceGE, Int.reduceNeg, Int.reduceAdd, Int.reduceSub, Nat.reduceBEq, decide_true, decide_false, undef, beq_self_eq_true, bne_self_eq_false, Bool.and_true, Bool.true_and, Bool.and_false, Bool.false_and, Bool.or_true, Bool.true_or, Bool.or_false, Bool.false_or]
            exact ⟨[0, 1, 2, 3, 4, 5, 6, 7], rfl, rfl, hi⟩
          | some a =>
            subst hacc
            obtain ⟨a1, a2⟩ := a
            simp only [go_sem, Nat.reduceEqDiff, Nat.reduceAdd, Nat.reduceSub, Nat.reduceMul, Nat.reduceLT, Nat.reduceLeDiff, Nat.reduceMod, Nat.reduceDiv, Int.reduceToNat, Int.reduceLT, Int.reduceLE, Bool.not_true, Bool.not_false, reduceIte, Int.reduceEq, Int.reduceBEq, Int.reduceBNe, Int.reduceGT, Int.reduceGE, Int.reduceNeg, Int.reduceAdd, Int.reduceSub, Nat.reduceBEq, decide_true, decide_false, undef, beq_self_eq_true, bne_self_eq_false, Bool.and_true, Bool.true_and, Bool.and_false, Bool.false_and, Bool.or_true, Bool.true_or, Bool.or_false, Bool.false_or]
            refine ACallL.quiet1 (joinS_ok a1 a2 _ _) rfl rfl rfl ?_
            simp only [go_sem, Nat.reduceEqDiff, Nat.reduceAdd, Nat.reduceSub, Nat.reduceMul, Nat.reduceLT, Nat.reduceLeDiff, Nat.reduceMod, Nat.reduceDiv, Int.reduceToNat, Int.reduceLT, Int.reduceLE, Bool.not_true, Bool.not_false, reduceIte, Int.reduceEq, Int.reduceBEq, Int.reduceBNe, Int.reduceGT, Int.reduceGE, Int.reduceNeg, Int.reduceAdd, Int.reduceSub, Nat.reduceBEq, decide_true, decide_false, undef, beq_self_eq_true, bne_self_eq_false, Bool.and_true, Bool.true_and, Bool.and_false, Bool.false_and, Bool.or_true, Bool.true_or, Bool.or_false, Bool.false_or]
            exact ⟨[0, 1, 2, 3, 4, 5, 6, 7], rfl, rfl, hi⟩
      · rintro σ ⟨ks', xs', clk', M', rfl⟩
        rw [List.length_map, List.take_length]
        have hfin : foldS (spanV f tl l (h + 1)) (stS tl h) jnS (stepsL f (u, c) h) = spanV f tl (l + 1) h (u, c) := rfl
        rw [hfin]
        rw [hfin] at *
        generalize spanV f tl (l + 1) h (u, c) = v at *
        cases v with
        | none =>
          simp only [kS, σ5, sumS, onE, go_sem, Nat.reduceEqDiff, Nat.reduceAdd, Nat.reduceSub, Nat.reduceMul, Nat.reduceLT, Nat.reduceLeDiff, Nat.reduceMod, Nat.reduceDiv, Int.reduceToNat, Int.reduceLT, Int.reduceLE, Bool.not_true, Bool.not_false, reduceIte, Int.reduceEq, Int.reduceBEq, Int.reduceBNe, Int.reduceGT, Int.reduceGE, Int.reduceNeg, Int.reduceAdd, Int.reduceSub, Nat.reduceBEq, decide_true, decide_false, undef, beq_self_eq_true, bne_self_eq_false, Bool.and_true, Bool.true_and, Bool.and_false, Bool.false_and, Bool.or_true, Bool.true_or, Bool.or_false, Bool.false_or, toKey_at]
          cases hk2 : kfind (some [none, some IntKind.i64, some IntKind.i64], none) ks' (keyA (u, c) h) with
          | some i =>
            simp only [go_sem, Nat.reduceEqDiff, Nat.reduceAdd, Nat.reduceSub, Nat.reduceMul, Nat.reduceLT, Nat.reduceLeDiff, Nat.reduceMod, Nat.reduceDiv, Int.reduceToNat, Int.reduceLT, Int.reduceLE, Bool.not_true, Bool.not_false, reduceIte, Int.reduceEq, Int.reduceBEq, Int.reduceBNe, Int.reduceGT, Int.reduceGE, Int.reduceNeg, Int.reduceAdd, Int.reduceSub, Nat.reduceBEq, decide_true, decide_false, undef, beq_self_eq_true, bne_self_eq_false, Bool.and_true, Bool.true_and, Bool.and_false, Bool.false_and, Bool.or_true, Bool.true_or, Bool.or_false, Bool.false_or]
            have M2 := M'.put hk2
            rw [hg] at M2
            exact finL_ret [0, 1, 2, 3, 4] ⟨rfl, rfl, rfl, rfl, _, rfl, rfl, _, _, _, M2, rfl⟩
          | none =>
            simp only [go_sem, Nat.reduceEqDiff, Nat.reduceAdd, Nat.reduceSub, Nat.reduceMul, Nat.reduceLT, Nat.reduceLeDiff, Nat.reduceMod, Nat.reduceDiv, Int.reduceToNat, Int.reduceLT, Int.reduceLE, Bool.not_true, Bool.not_false, reduceIte, Int.reduceEq, Int.reduceBEq, Int.reduceBNe, Int.reduceGT, Int.reduceGE, Int.reduceNeg, Int.reduceAdd, Int.reduceSub, Nat.reduceBEq, decide_true, decide_false, undef, beq_self_eq_true, bne_self_eq_false, Bool.and_true, Bool.true_and, Bool.and_false, Bool.false_and, Bool.or_true, Bool.true_or, Bool.or_false, Bool.false_or]
            have M2 := M'.new (p := (u, c)) (h := h) (clk := clk') (by omega)
            rw [hg] at M2
            exact finL_ret [0, 1, 2, 3, 4] ⟨rfl, rfl, rfl, rfl, _, rfl, rfl, _, _, _, M2, rfl⟩
        | some n =>
          simp only [kS, σ5, sumS, onE, go_sem, Nat.reduceEqDiff, Nat.reduceAdd, Nat.reduceSub, Nat.reduceMul, Nat.reduceLT, Nat.reduceLeDiff, Nat.reduceMod, Nat.reduceDiv, Int.reduceToNat, Int.reduceLT, Int.reduceLE, Bool.not_true, Bool.not_false, reduceIte, Int.reduceEq, Int.reduceBEq, Int.reduceBNe, Int.reduceGT, Int.reduceGE, Int.reduceNeg, Int.reduceAdd, Int.reduceSub, Nat.reduceBEq, decide_true, decide_false, undef, beq_self_eq_true, bne_self_eq_false, Bool.and_true, Bool.true_and, Bool.and_false, Bool.false_and, Bool.or_true, Bool.true_or, Bool.or_false, Bool.false_or, toKey_at]
          cases hk2 : kfind (some [none, some IntKind.i64, some IntKind.i64], none) ks' (keyA (u, c) h) with
          | some i =>
            simp only [go_sem, Nat.reduceEqDiff, Nat.reduceAdd, Nat.reduceSub, Nat.reduceMul, Nat.reduceLT, Nat.reduceLeDiff, Nat.reduceMod, Nat.reduceDiv, Int.reduceToNat, Int.reduceLT, Int.reduceLE, Bool.not_true, Bool.not_false, reduceIte, Int.reduceEq, Int.reduceBEq, Int.reduceBNe, Int.reduceGT, Int.reduceGE, Int.reduceNeg, Int.reduceAdd, Int.reduceSub, Nat.reduceBEq, decide_true, decide_false, undef, beq_self_eq_true, bne_self_eq_false, Bool.and_true, Bool.true_and, Bool.and_false, Bool.false_and, Bool.or_true, Bool.true_or, Bool.or_false, Bool.false_or]
            have M2 := M'.put hk2
            rw [hg] at M2
            exact finL_ret [0, 1, 2, 3, 4] ⟨rfl, rfl, rfl, rfl, _, rfl, rfl, _, _, _, M2, rfl⟩
          | none =>
            simp only [go_sem, Nat.reduceEqDiff, Nat.reduceAdd, Nat.reduceSub, Nat.reduceMul, Nat.reduceLT, Nat.reduceLeDiff, Nat.reduceMod, Nat.reduceDiv, Int.reduceToNat, Int.reduceLT, Int.reduceLE, Bool.not_true, Bool.not_false, reduceIte, Int.reduceEq, Int.reduceBEq, Int.reduceBNe, Int.reduceGT, Int.reduceGE, Int.reduceNeg, Int.reduceAdd, Int.reduceSub, Nat.reduceBEq, decide_true, decide_false, undef, beq_self_eq_true, bne_self_eq_false, Bool.and_true, Bool.true_and, Bool.and_false, Bool.false_and, Bool.or_true, Bool.true_or, Bool.or_false, Bool.false_or]
            have M2 := M'.new (p := (u, c)) (h := h) (clk := clk') (by omega)
            rw [hg] at M2
            exact finL_ret [0, 1, 2, 3, 4] ⟨rfl, rfl, rfl, rfl, _, rfl, rfl, _, _, _, M2, rfl⟩
end Go.Proofs.YtkbjodmpmmnhgaaDoor

/- What is told of all truths. -/
namespace Go.Proofs.YtkbjodmpmmnhgaaDoor
open Go Go.Ab

abbrev pole0 : Pole := (false, 0)

set_option maxRecDepth 4000 in
theorem toldI_ok (f : Fl) (hf : f.OK) (tl : Tl) : ACall Tryd.prog 77 [.t (tBch f), .t (.agg (sumI tl))] [] (res (.ret (.tup [.t (vi ((waysV f tl f.hs.length 0 pole0).getD 0)), .t (vb (waysV f tl f.hs.length 0 pole0).isSome)]))) := by
  refine ACall.walk k77 ?_
  unfold c77 sumI
  simp only [tBch, go_sem, Nat.reduceEqDiff, Nat.reduceAdd, Nat.reduceSub, Nat.reduceMul, Nat.reduceLT, Nat.reduceLeDiff, Nat.reduceMod, Nat.reduceDiv, Int.reduceToNat, Int.reduceLT, Int.reduceLE, Bool.not_true, Bool.not_false, reduceIte, Int.reduceEq, Int.reduceBEq, Int.reduceBNe, Int.reduceGT, Int.reduceGE, Int.reduceNeg, Int.reduceAdd, Int.reduceSub, Nat.reduceBEq, decide_true, decide_false, undef, beq_self_eq_true, bne_self_eq_false, Bool.and_true, Bool.true_and, Bool.and_false, Bool.false_and, Bool.or_true, Bool.true_or, Bool.or_false, Bool.false_or]
  refine lend5 (sum := sumI tl) (OK := MapOK f.hs.length (gI f tl)) (onI_ok f hf tl f.hs.length 0 pole0 [] [] 0 (by omega) (by simp) (MapOK.nil _ _)) (a := 0) (b := 1) (c := 3) (d := 4) (e := 2) (by decide) rfl rfl rfl rfl rfl fun ks2 xs2 clk2 M2 => ?_
  cases hv : waysV f tl f.hs.length 0 pole0 with
  | none =>
    simp only [kI, go_sem, Nat.reduceEqDiff, Nat.reduceAdd, Nat.reduceSub, Nat.reduceMul, Nat.reduceLT, Nat.reduceLeDiff, Nat.reduceMod, Nat.reduceDiv, Int.reduceToNat, Int.reduceLT, Int.reduceLE, Bool.not_true, Bool.not_false, reduceIte, Int.reduceEq, Int.reduceBEq, Int.reduceBNe, Int.reduceGT, Int.reduceGE, Int.reduceNeg, Int.reduceAdd, Int.reduceSub, Nat.reduceBEq, decide_true, decide_false, undef, beq_self_eq_true, bne_self_eq_false, Bool.and_true, Bool.true_and, Bool.and_false, Bool.false_and, Bool.or_true, Bool.true_or, Bool.or_false, Bool.false_or]
    exact finL_ret [] ⟨rfl, rfl, rfl, rfl, _, rfl, res_mk rfl⟩
  | some n =>
    simp only [kI, go_sem, Nat.reduceEqDiff, Nat.reduceAdd, Nat.reduceSub, Nat.reduceMul, Nat.reduceLT, Nat.reduceLeDiff, Nat.reduceMod, Nat.reduceDiv, Int.reduceToNat, Int.reduceLT, Int.reduceLE, Bool.not_true, Bool.not_false, reduceIte, Int.reduceEq, Int.reduceBEq, Int.reduceBNe, Int.reduceGT, Int.reduceGE, Int.reduceNeg, Int.reduceAdd, Int.reduceSub, Nat.reduceBEq, decide_true, decide_false, undef, beq_self_eq_true, bne_self_eq_false, Bool.and_true, Bool.true_and, Bool.and_false, Bool.false_and, Bool.or_true, Bool.true_or, Bool.or_false, Bool.false_or]
    exact finL_ret [] ⟨rfl, rfl, rfl, rfl, _, rfl, res_mk rfl⟩

set_option maxRecDepth 4000 in
theorem toldS_ok (f : Fl) (hf : f.OK) (tl : Tl) : ACall Tryd.prog 72 [.t (tBch f), .t (.agg (sumS tl))] [] (res (.ret (.tup [.t (tSp ((spanV f tl f.hs.length 0 pole0).getD (0, 0))), .t (vb (spanV f tl f.hs.length 0 pole0).isSome)]))) := by
  refine ACall.walk k72 ?_
  unfold c72 sumS
  simp only [tBch, go_sem, Nat.reduceEqDiff, Nat.reduceAdd, Nat.reduceSub, Nat.reduceMul, Nat.reduceLT, Nat.reduceLeDiff, Nat.reduceMod, Nat.reduceDiv, Int.reduceToNat, Int.reduceLT, Int.reduceLE, Bool.not_true, Bool.not_false, reduceIte, Int.reduceEq, Int.reduceBEq, Int.reduceBNe, Int.reduceGT, Int.reduceGE, Int.reduceNeg, Int.reduceAdd, Int.reduceSub, Nat.reduceBEq, decide_true, decide_false, undef, beq_self_eq_true, bne_self_eq_false, Bool.and_true, Bool.true_and, Bool.and_false, Bool.false_and, Bool.or_true, Bool.true_or, Bool.or_false, Bool.false_or]
  refine lend5 (sum := sumS tl) (OK := MapOK f.hs.length (gS f tl)) (onS_ok f hf tl f.hs.length 0 pole0 [] [] 0 (by omega) (by simp) (MapOK.nil _ _)) (a := 0) (b := 1) (c := 4) (d := 5) (e := 3) (by decide) rfl rfl rfl rfl rfl fun ks2 xs2 clk2 M2 => ?_
  cases hv : spanV f tl f.hs.length 0 pole0 with
  | none =>
    simp only [kS, go_sem, Nat.reduceEqDiff, Nat.reduceAdd, Nat.reduceSub, Nat.reduceMul, Nat.reduceLT, Nat.reduceLeDiff, Nat.reduceMod, Nat.reduceDiv, Int.reduceToNat, Int.reduceLT, Int.reduceLE, Bool.not_true, Bool.not_false, reduceIte, Int.reduceEq, Int.reduceBEq, Int.reduceBNe, Int.reduceGT, Int.reduceGE, Int.reduceNeg, Int.reduceAdd, Int.reduceSub, Nat.reduceBEq, decide_true, decide_false, undef, beq_self_eq_true, bne_self_eq_false, Bool.and_true, Bool.true_and, Bool.and_false, Bool.false_and, Bool.or_true, Bool.true_or, Bool.or_false, Bool.false_or]
    exact finL_ret [] ⟨rfl, rfl, rfl, rfl, _, rfl, res_mk rfl⟩
  | some n =>
    obtain ⟨a, b⟩ := n
    simp only [kS, go_sem, Nat.reduceEqDiff, Nat.reduceAdd, Nat.reduceSub, Nat.reduceMul, Nat.reduceLT, Nat.reduceLeDiff, Nat.reduceMod, Nat.reduceDiv, Int.reduceToNat, Int.reduceLT, Int.reduceLE, Bool.not_true, Bool.not_false, reduceIte, Int.reduceEq, Int.reduceBEq, Int.reduceBNe, Int.reduceGT, Int.reduceGE, Int.reduceNeg, Int.reduceAdd, Int.reduceSub, Nat.reduceBEq, decide_true, decide_false, undef, beq_self_eq_true, bne_self_eq_false, Bool.and_true, Bool.true_and, Bool.and_false, Bool.false_and, Bool.or_true, Bool.true_or, Bool.or_false, Bool.false_or]
    exact finL_ret [] ⟨rfl, rfl, rfl, rfl, _, rfl, res_mk rfl⟩

abbrev wN (f : Fl) (tl : Tl) : Int := (waysV f tl f.hs.length 0 pole0).getD 0
theorem ways_ok (f : Fl) (hf : f.OK) (tl : Tl) : ACall Tryd.prog 62 [.t (tBch f), .t (tTl tl)] [] (ret (vi (wN f tl))) := by
  refine ACall.walk k62 ?_
  unfold c62
  have h := toldI_ok f hf tl
  have e : tTl tl = .iface (match tl with | .flown _ _ => 88 | .only _ _ => 96) (.agg [vi (match tl with | .flown a _ => a | .only a _ => a), vi (match tl with | .flown _ b => b | .only _ b => b)]) := by cases tl <;> rfl
  simp only [e, go_sem, Nat.reduceEqDiff, Nat.reduceAdd, Nat.reduceSub, Nat.reduceMul, Nat.reduceLT, Nat.reduceLeDiff, Nat.reduceMod, Nat.reduceDiv, Int.reduceToNat, Int.reduceLT, Int.reduceLE, Bool.not_true, Bool.not_false, reduceIte, Int.reduceEq, Int.reduceBEq, Int.reduceBNe, Int.reduceGT, Int.reduceGE, Int.reduceNeg, Int.reduceAdd, Int.reduceSub, Nat.reduceBEq, decide_true, decide_false, undef, beq_self_eq_true, bne_self_eq_false, Bool.and_true, Bool.true_and, Bool.and_false, Bool.false_and, Bool.or_true, Bool.true_or, Bool.or_false, Bool.false_or]
  refine ACallL.quiet1 h rfl ?_ rfl ?_
  · unfold sumI
    rw [e]
    rfl
  simp only [go_sem, Nat.reduceEqDiff, Nat.reduceAdd, Nat.reduceSub, Nat.reduceMul, Nat.reduceLT, Nat.reduceLeDiff, Nat.reduceMod, Nat.reduceDiv, Int.reduceToNat, Int.reduceLT, Int.reduceLE, Bool.not_true, Bool.not_false, reduceIte, Int.reduceEq, Int.reduceBEq, Int.reduceBNe, Int.reduceGT, Int.reduceGE, Int.reduceNeg, Int.reduceAdd, Int.reduceSub, Nat.reduceBEq, decide_true, decide_false, undef, beq_self_eq_true, bne_self_eq_false, Bool.and_true, Bool.true_and, Bool.and_false, Bool.false_and, Bool.or_true, Bool.true_or, Bool.or_false, Bool.false_or]
  exact finL_ret [] ⟨rfl, rfl, rfl, rfl, _, rfl, res_mk rfl⟩

abbrev allN (f : Fl) : Int := wN f (.only (-1) 0)
theorem all_ok (f : Fl) (hf : f.OK) : ACall Tryd.prog 51 [.t (tBch f)] [] (ret (vi (allN f))) := by
  refine ACall.walk k51 ?_
  unfold c51
  simp only [go_sem, Nat.reduceEqDiff, Nat.reduceAdd, Nat.reduceSub, Nat.reduceMul, Nat.reduceLT, Nat.reduceLeDiff, Nat.reduceMod, Nat.reduceDiv, Int.reduceToNat, Int.reduceLT, Int.reduceLE, Bool.not_true, Bool.not_false, reduceIte, Int.reduceEq, Int.reduceBEq, Int.reduceBNe, Int.reduceGT, Int.reduceGE, Int.reduceNeg, Int.reduceAdd, Int.reduceSub, Nat.reduceBEq, decide_true, decide_false, undef, beq_self_eq_true, bne_self_eq_false, Bool.and_true, Bool.true_and, Bool.and_false, Bool.false_and, Bool.or_true, Bool.true_or, Bool.or_false, Bool.false_or]
  refine ACallL.quiet1 (ways_ok f hf (.only (-1) 0)) rfl rfl rfl ?_
  simp only [go_sem, Nat.reduceEqDiff, Nat.reduceAdd, Nat.reduceSub, Nat.reduceMul, Nat.reduceLT, Nat.reduceLeDiff, Nat.reduceMod, Nat.reduceDiv, Int.reduceToNat, Int.reduceLT, Int.reduceLE, Bool.not_true, Bool.not_false, reduceIte, Int.reduceEq, Int.reduceBEq, Int.reduceBNe, Int.reduceGT, Int.reduceGE, Int.reduceNeg, Int.reduceAdd, Int.reduceSub, Nat.reduceBEq, decide_true, decide_false, undef, beq_self_eq_true, bne_self_eq_false, Bool.and_true, Bool.true_and, Bool.and_false, Bool.false_and, Bool.or_true, Bool.true_or, Bool.or_false, Bool.false_or]
  exact finL_ret [] ⟨rfl, rfl, rfl, rfl, _, rfl, res_mk rfl⟩

abbrev spO (f : Fl) (tl : Tl) : Option (Int × Int) := spanV f tl f.hs.length 0 pole0
abbrev spanO (f : Fl) (tl : Tl) : Out := match spO f tl with | some s => .ret (.t (tSp s)) | none => .pan (rfs 10)
theorem span_ok (f : Fl) (hf : f.OK) (tl : Tl) : ACall Tryd.prog 56 [.t (tBch f), .t (tTl tl)] [] (res (spanO f tl)) := by
  refine ACall.walk k56 ?_
  unfold c56
  have h := toldS_ok f hf tl
  have e : tTl tl = .iface (match tl with | .flown _ _ => 88 | .only _ _ => 96) (.agg [vi (match tl with | .flown a _ => a | .only a _ => a), vi (match tl with | .flown _ b => b | .only _ b => b)]) := by cases tl <;> rfl
  simp only [e, go_sem, Nat.reduceEqDiff, Nat.reduceAdd, Nat.reduceSub, Nat.reduceMul, Nat.reduceLT, Nat.reduceLeDiff, Nat.reduceMod, Nat.reduceDiv, Int.reduceToNat, Int.reduceLT, Int.reduceLE, Bool.not_true, Bool.not_false, reduceIte, Int.reduceEq, Int.reduceBEq, Int.reduceBNe, Int.reduceGT, Int.reduceGE, Int.reduceNeg, Int.reduceAdd, Int.reduceSub, Nat.reduceBEq, decide_true, decide_false, undef, beq_self_eq_true, bne_self_eq_false, Bool.and_true, Bool.true_and, Bool.and_false, Bool.false_and, Bool.or_true, Bool.true_or, Bool.or_false, Bool.false_or]
  refine ACallL.quiet1 h rfl ?_ rfl ?_
  · unfold sumS
    rw [e]
    rfl
  cases hs : spanV f tl f.hs.length 0 pole0 with
  | none =>
    simp only [go_sem, Nat.reduceEqDiff, Nat.reduceAdd, Nat.reduceSub, Nat.reduceMul, Nat.reduceLT, Nat.reduceLeDiff, Nat.reduceMod, Nat.reduceDiv, Int.reduceToNat, Int.reduceLT, Int.reduceLE, Bool.not_true, Bool.not_false, reduceIte, Int.reduceEq, Int.reduceBEq, Int.reduceBNe, Int.reduceGT, Int.reduceGE, Int.reduceNeg, Int.reduceAdd, Int.reduceSub, Nat.reduceBEq, decide_true, decide_false, undef, beq_self_eq_true, bne_self_eq_false, Bool.and_true, Bool.true_and, Bool.and_false, Bool.false_and, Bool.or_true, Bool.true_or, Bool.or_false, Bool.false_or, Option.getD_none, Option.isSome_none, tSp]
    refine ACallL.quiet1 (ask_ok false 10) rfl rfl rfl ?_
    simp only [askO, go_sem, Nat.reduceEqDiff, Nat.reduceAdd, Nat.reduceSub, Nat.reduceMul, Nat.reduceLT, Nat.reduceLeDiff, Nat.reduceMod, Nat.reduceDiv, Int.reduceToNat, Int.reduceLT, Int.reduceLE, Bool.not_true, Bool.not_false, reduceIte, Int.reduceEq, Int.reduceBEq, Int.reduceBNe, Int.reduceGT, Int.reduceGE, Int.reduceNeg, Int.reduceAdd, Int.reduceSub, Nat.reduceBEq, decide_true, decide_false, undef, beq_self_eq_true, bne_self_eq_false, Bool.and_true, Bool.true_and, Bool.and_false, Bool.false_and, Bool.or_true, Bool.true_or, Bool.or_false, Bool.false_or]
    exact finL_pan [] ⟨rfl, rfl, rfl, rfl, res_mk (by simp only [spanO, spO, hs])⟩
  | some s =>
    obtain ⟨a, b⟩ := s
    simp only [go_sem, Nat.reduceEqDiff, Nat.reduceAdd, Nat.reduceSub, Nat.reduceMul, Nat.reduceLT, Nat.reduceLeDiff, Nat.reduceMod, Nat.reduceDiv, Int.reduceToNat, Int.reduceLT, Int.reduceLE, Bool.not_true, Bool.not_false, reduceIte, Int.reduceEq, Int.reduceBEq, Int.reduceBNe, Int.reduceGT, Int.reduceGE, Int.reduceNeg, Int.reduceAdd, Int.reduceSub, Nat.reduceBEq, decide_true, decide_false, undef, beq_self_eq_true, bne_self_eq_false, Bool.and_true, Bool.true_and, Bool.and_false, Bool.false_and, Bool.or_true, Bool.true_or, Bool.or_false, Bool.false_or, Option.getD_some, Option.isSome_some, tSp]
    refine ACallL.quiet1 (ask_ok true 10) rfl rfl rfl ?_
    simp only [askO, go_sem, Nat.reduceEqDiff, Nat.reduceAdd, Nat.reduceSub, Nat.reduceMul, Nat.reduceLT, Nat.reduceLeDiff, Nat.reduceMod, Nat.reduceDiv, Int.reduceToNat, Int.reduceLT, Int.reduceLE, Bool.not_true, Bool.not_false, reduceIte, Int.reduceEq, Int.reduceBEq, Int.reduceBNe, Int.reduceGT, Int.reduceGE, Int.reduceNeg, Int.reduceAdd, Int.reduceSub, Nat.reduceBEq, decide_true, decide_false, undef, beq_self_eq_true, bne_self_eq_false, Bool.and_true, Bool.true_and, Bool.and_false, Bool.false_and, Bool.or_true, Bool.true_or, Bool.or_false, Bool.false_or]
    exact finL_ret [] ⟨rfl, rfl, rfl, rfl, _, rfl, res_mk (by simp only [spanO, spO, hs]; rfl)⟩
end Go.Proofs.YtkbjodmpmmnhgaaDoor
