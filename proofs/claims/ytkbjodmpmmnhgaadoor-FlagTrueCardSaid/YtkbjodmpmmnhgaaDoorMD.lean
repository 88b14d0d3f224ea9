/- Proved here: laws that the statements need (FlL, FlM, FlN, FlO, FlP, FlQ). No conditions but those that each law states. -/
import Derived.Test.YtkbjodmpmmnhgaaDoorMC

set_option linter.unusedSimpArgs false
set_option linter.unusedVariables false

/- Truths: rows of kinds; what is told of them all. Plain laws. -/
namespace Go.Proofs.YtkbjodmpmmnhgaaDoor
open Go Go.Ab

def paths (f : Fl) : Nat → Nat → Pole → List (List Step)
  | 0, _, _ => [[]]
  | l + 1, h, p => (stepsL f p h).flatMap fun s => (paths f l (h + 1) s.1).map (s :: ·)
def prodF (tl : Tl) : Nat → List Step → Int
  | _, [] => 1
  | h, s :: r => prodF tl (h + 1) r * (tl.cnt s h : Nat)
def sumF (tl : Tl) : Nat → List Step → Int
  | _, [] => 0
  | h, s :: r => sumF tl (h + 1) r + (tl.cnt s h : Nat)
def sumO : List Int → Option Int
  | [] => none
  | x :: r => some (x + r.sum)
def hullO : List Int → Option (Int × Int)
  | [] => none
  | x :: r => some (r.foldl min x, r.foldl max x)
def joinO {X : Type} (jn : X → X → X) : Option X → Option X → Option X
  | some x, some y => some (jn x y)
  | none, y => y
  | x, none => x

theorem foldS_comb {X : Type} (val : Pole → Option X) (st : Step → X → X) (jn : X → X → X) (comb : List Int → Option X) (G : Step → List Int) (h0 : comb [] = none) (happ : ∀ a b, comb (a ++ b) = joinO jn (comb a) (comb b))
    (hv : ∀ s, comb (G s) = (val s.1).map (st s)) (L : List Step) : foldS val st jn L = comb (L.flatMap G) := by
  induction L using snoc_ind with
  | h0 => exact h0.symm
  | h1 l s ih =>
    rw [foldS_snoc, List.flatMap_append, happ, ih]
    simp only [List.flatMap_cons, List.flatMap_nil, List.append_nil, hv]
    unfold stepAcc
    cases val s.1 with
    | none => cases comb (l.flatMap G) <;> rfl
    | some r => cases comb (l.flatMap G) <;> rfl

theorem sumO_app (a b : List Int) : sumO (a ++ b) = joinO (· + ·) (sumO a) (sumO b) := by
  cases a with
  | nil => cases b <;> rfl
  | cons x a =>
    cases b with
    | nil => simp [sumO, joinO]
    | cons y b => simp [sumO, joinO, List.sum_append]; omega
theorem sumO_mul (c : Int) (l : List Int) : sumO (l.map (· * c)) = (sumO l).map (· * c) := by
  have : ∀ l : List Int, (l.map (· * c)).sum = l.sum * c := fun l => by
    induction l with
    | nil => simp
    | cons x l ih => simp only [List.map_cons, List.sum_cons, ih, Int.add_mul]
  cases l with
  | nil => rfl
  | cons x l => simp only [sumO, List.map_cons, this, Option.map_some, Int.add_mul]
theorem foldl_min' (r : List Int) (x y : Int) : r.foldl min (min x y) = min x (r.foldl min y) := by
  induction r generalizing y with
  | nil => rfl
  | cons z r ih => simp only [List.foldl_cons]; rw [show min (min x y) z = min x (min y z) by omega, ih]
theorem foldl_max' (r : List Int) (x y : Int) : r.foldl max (max x y) = max x (r.foldl max y) := by
  induction r generalizing y with
  | nil => rfl
  | cons z r ih => simp only [List.foldl_cons]; rw [show max (max x y) z = max x (max y z) by omega, ih]
theorem hullO_app (a b : List Int) : hullO (a ++ b) = joinO jnS (hullO a) (hullO b) := by
  cases a with
  | nil => cases b <;> rfl
  | cons x a =>
    cases b with
    | nil => simp [hullO, joinO]
    | cons y b => simp only [hullO, joinO, jnS, List.cons_append, List.foldl_append, List.foldl_cons, foldl_min', foldl_max']
theorem hullO_add (c : Int) (l : List Int) : hullO (l.map (· + c)) = (hullO l).map fun s => (s.1 + c, s.2 + c) := by
  have h1 : ∀ (l : List Int) (x : Int), (l.map (· + c)).foldl min (x + c) = l.foldl min x + c := fun l => by
    induction l with
    | nil => intro x; rfl
    | cons y l ih => intro x; simp only [List.map_cons, List.foldl_cons]; rw [show min (x + c) (y + c) = min x y + c by omega, ih]
  have h2 : ∀ (l : List Int) (x : Int), (l.map (· + c)).foldl max (x + c) = l.foldl max x + c := fun l => by
    induction l with
    | nil => intro x; rfl
    | cons y l ih => intro x; simp only [List.map_cons, List.foldl_cons]; rw [show max (x + c) (y + c) = max x y + c by omega, ih]
  cases l with
  | nil => rfl
  | cons x l => simp only [hullO, List.map_cons, h1, h2, Option.map_some]

theorem waysV_eq (f : Fl) (tl : Tl) : ∀ (l h : Nat) (p : Pole), waysV f tl l h p = sumO ((paths f l h p).map (prodF tl h))
  | 0, _, _ => rfl
  | l + 1, h, p => by
    have h1 := foldS_comb (waysV f tl l (h + 1)) (stI tl h) (· + ·) sumO (fun s => ((paths f l (h + 1) s.1).map (prodF tl (h + 1))).map (· * ((tl.cnt s h : Nat) : Int))) rfl sumO_app
      (fun s => by rw [sumO_mul, waysV_eq f tl l (h + 1)]) (stepsL f p h)
    refine h1.trans (congrArg sumO ?_)
    simp only [paths, List.map_flatMap, List.map_map]
    rfl
theorem spanV_eq (f : Fl) (tl : Tl) : ∀ (l h : Nat) (p : Pole), spanV f tl l h p = hullO ((paths f l h p).map (sumF tl h))
  | 0, _, _ => rfl
  | l + 1, h, p => by
    have h1 := foldS_comb (spanV f tl l (h + 1)) (stS tl h) jnS hullO (fun s => ((paths f l (h + 1) s.1).map (sumF tl (h + 1))).map (· + ((tl.cnt s h : Nat) : Int))) rfl hullO_app
      (fun s => by rw [hullO_add, spanV_eq f tl l (h + 1)]) (stepsL f p h)
    refine h1.trans (congrArg hullO ?_)
    simp only [paths, List.map_flatMap, List.map_map]
    rfl

/-! ### Rows of kinds -/
def kset (m : Nat) : List Nat := (List.range 3).filter m.testBit
def kls (f : Fl) : Nat → Nat → List (List Nat)
  | 0, _ => [[]]
  | l + 1, h => (kset (Kf f h)).flatMap fun k => (kls f l (h + 1)).map (k :: ·)
def runK (q : Int) : Pole → List Nat → List Step
  | _, [] => []
  | p, k :: r => ((hourF q p k).1, (hourF q p k).2, k) :: runK q (hourF q p k).1 r
def okK (f : Fl) : Nat → Pole → List Nat → Bool
  | _, _, [] => true
  | h, p, k :: r => (if (hourF f.quiet p k).2 then Uf f h else Df f h) && okK f (h + 1) (hourF f.quiet p k).1 r

theorem filter_flatMap {α β : Type} (p : β → Bool) (g : α → List β) (l : List α) : (l.flatMap g).filter p = l.flatMap fun a => (g a).filter p := by
  induction l with
  | nil => rfl
  | cons a l ih => simp only [List.flatMap_cons, List.filter_append, ih]

theorem paths_eq (f : Fl) : ∀ (l h : Nat) (p : Pole), paths f l h p = ((kls f l h).filter (okK f h p)).map (runK f.quiet p)
  | 0, _, _ => rfl
  | l + 1, h, p => by
    have key : ∀ k : Nat, (stepAt f p h k).toList.flatMap (fun s => (paths f l (h + 1) s.1).map (s :: ·)) =
        (([k].filter (Kf f h).testBit).flatMap fun k => ((kls f l (h + 1)).map (k :: ·)).filter (okK f h p)).map (runK f.quiet p) := fun k => by
      cases hb : (Kf f h).testBit k with
      | false =>
        have : stepAt f p h k = none := by simp [stepAt, hb]
        rw [this]
        simp [hb]
      | true =>
        have hfil : ∀ b : Bool, (if (hourF f.quiet p k).2 then Uf f h else Df f h) = b → ((kls f l (h + 1)).map (k :: ·)).filter (okK f h p) = if b then ((kls f l (h + 1)).filter (okK f (h + 1) (hourF f.quiet p k).1)).map (k :: ·) else [] := fun b hb => by
          rw [List.filter_map]
          have : (okK f h p ∘ fun x => k :: x) = fun r => b && okK f (h + 1) (hourF f.quiet p k).1 r := by
            funext r
            simp only [Function.comp, okK, hb]
          rw [this]
          cases b <;> simp
        cases hc : (if (hourF f.quiet p k).2 then Uf f h else Df f h) with
        | false =>
          have : stepAt f p h k = none := by simp only [stepAt, hb, hc]; simp
          rw [this]
          simp [hb, hfil false hc]
        | true =>
          have : stepAt f p h k = some ((hourF f.quiet p k).1, (hourF f.quiet p k).2, k) := by simp only [stepAt, hb, hc]; simp
          rw [this]
          simp only [Option.toList_some, List.flatMap_cons, List.flatMap_nil, List.append_nil, List.filter_cons, hb, if_true, List.filter_nil, hfil true hc, paths_eq f l (h + 1), List.map_map]
          rfl
    simp only [paths, kls, stepsL, stepsK, kset, List.nil_append, List.flatMap_append, key]
    rw [show List.range 3 = [0] ++ [1] ++ [2] from rfl]
    simp only [List.filter_append, List.flatMap_append, List.map_append, filter_flatMap]
end Go.Proofs.YtkbjodmpmmnhgaaDoor

/- Truths: who is one; what is counted of one. Plain laws. -/
namespace Go.Proofs.YtkbjodmpmmnhgaaDoor
open Go Go.Ab

/-- When the flag is up, by the kinds of hours. -/
def upsP (q : Int) (p : Pole) (ks : List Nat) : List Bool := (runK q p ks).map (·.2.1)
abbrev ups (f : Fl) (ks : List Nat) : List Bool := upsP f.quiet pole0 ks
abbrev upAt (f : Fl) (ks : List Nat) (h : Nat) : Bool := (ups f ks).getD h false
def right (f : Fl) (ss : List Sn) (ks : List Nat) : Bool := ss.all fun s => upAt f ks s.h.toNat == s.up
/-- All rows of kinds, and those that are truths. -/
abbrev rows (f : Fl) : List (List Nat) := kls f f.hs.length 0
def truths (f : Fl) : List (List Nat) := (rows f).filter (right f f.ss)

theorem runK_len (q : Int) : ∀ (p : Pole) (ks : List Nat), (runK q p ks).length = ks.length
  | _, [] => rfl
  | _, k :: r => by simp only [runK, List.length_cons, runK_len q]
theorem upsP_len (q : Int) (p : Pole) (ks : List Nat) : (upsP q p ks).length = ks.length := by simp [upsP, runK_len]
theorem upsP_cons (q : Int) (p : Pole) (k : Nat) (r : List Nat) : upsP q p (k :: r) = (hourF q p k).2 :: upsP q (hourF q p k).1 r := rfl

theorem kls_mem (f : Fl) : ∀ (l h : Nat) (ks : List Nat), ks ∈ kls f l h ↔ ks.length = l ∧ ∀ (i k : Nat), ks[i]? = some k → k ∈ kset (Kf f (h + i))
  | 0, h, ks => by
    simp only [kls, List.mem_singleton]
    constructor
    · rintro rfl; simp
    · rintro ⟨h1, _⟩; exact List.eq_nil_of_length_eq_zero h1
  | l + 1, h, ks => by
    simp only [kls, List.mem_flatMap, List.mem_map]
    constructor
    · rintro ⟨k, hk, r, hr, rfl⟩
      obtain ⟨h1, h2⟩ := (kls_mem f l (h + 1) r).1 hr
      refine ⟨by simp [h1], fun i k' hi => ?_⟩
      cases i with
      | zero => simp at hi; subst hi; exact hk
      | succ i =>
        have := h2 i k' (by simpa using hi)
        rwa [show h + 1 + i = h + (i + 1) by omega] at this
    · rintro ⟨h1, h2⟩
      cases ks with
      | nil => simp at h1
      | cons k r =>
        refine ⟨k, h2 0 k rfl, r, (kls_mem f l (h + 1) r).2 ⟨by simpa using h1, fun i k' hi => ?_⟩, rfl⟩
        have := h2 (i + 1) k' (by simpa using hi)
        rwa [show h + (i + 1) = h + 1 + i by omega] at this
theorem kset_mem (m k : Nat) : k ∈ kset m ↔ k < 3 ∧ m.testBit k = true := by simp [kset]
theorem rows_len {f : Fl} {ks : List Nat} (h : ks ∈ rows f) : ks.length = f.hs.length := ((kls_mem f _ _ _).1 h).1
theorem truths_rows {f : Fl} {ks : List Nat} (h : ks ∈ truths f) : ks ∈ rows f := (List.mem_filter.1 h).1
theorem truths_len {f : Fl} {ks : List Nat} (h : ks ∈ truths f) : ks.length = f.hs.length := rows_len (truths_rows h)

theorem okK_iff (f : Fl) : ∀ (h : Nat) (p : Pole) (ks : List Nat), okK f h p ks = true ↔ ∀ (i : Nat) (u : Bool), (upsP f.quiet p ks)[i]? = some u → (if u then Uf f (h + i) else Df f (h + i)) = true
  | h, p, [] => by simp [okK, upsP, runK]
  | h, p, k :: r => by
    simp only [okK, Bool.and_eq_true, okK_iff f (h + 1), upsP_cons]
    constructor
    · rintro ⟨h1, h2⟩ i u hi
      cases i with
      | zero => simp at hi; subst hi; exact h1
      | succ i =>
        have := h2 i u (by simpa using hi)
        rwa [show h + 1 + i = h + (i + 1) by omega] at this
    · intro h1
      refine ⟨h1 0 _ rfl, fun i u hi => ?_⟩
      have := h1 (i + 1) u (by simpa using hi)
      rwa [show h + (i + 1) = h + 1 + i by omega] at this

theorem said_iff (up : Bool) (ss : List Sn) (i : Nat) : said up ss i = true ↔ ∃ s ∈ ss, s.up = up ∧ s.h = i := by simp [said]

theorem okK_right (f : Fl) (hf : f.OK) (ks : List Nat) (hk : ks.length = f.hs.length) : okK f 0 pole0 ks = right f f.ss ks := by
  rw [Bool.eq_iff_iff, okK_iff]
  unfold right
  rw [List.all_eq_true]
  have hlen : (ups f ks).length = f.hs.length := by rw [upsP_len, hk]
  constructor
  · intro h s hs
    obtain ⟨h0, h1⟩ := hf.ss s hs
    have hlt : s.h.toNat < (ups f ks).length := by omega
    have hg := List.getElem?_eq_getElem hlt
    have hu := h s.h.toNat _ hg
    rw [beq_iff_eq, upAt, List.getD_eq_getElem?_getD, hg, Option.getD_some]
    generalize (ups f ks)[s.h.toNat] = u at *
    cases u with
    | true =>
      simp only [if_true, Uf, Bool.and_eq_true, Bool.not_eq_true', Nat.zero_add] at hu
      cases hsu : s.up with
      | true => rfl
      | false =>
        have : said false f.ss s.h.toNat = true := (said_iff _ _ _).2 ⟨s, hs, hsu, by omega⟩
        rw [this] at hu; cases hu.2
    | false =>
      simp only [Bool.false_eq_true, if_false, Df, Bool.and_eq_true, Bool.not_eq_true', Nat.zero_add] at hu
      cases hsu : s.up with
      | false => rfl
      | true =>
        have : said true f.ss s.h.toNat = true := (said_iff _ _ _).2 ⟨s, hs, hsu, by omega⟩
        rw [this] at hu; cases hu.2
  · intro h i u hi
    have hlt : i < f.hs.length := by rw [← hlen]; exact (List.getElem?_eq_some_iff.1 hi).1
    have key : ∀ s ∈ f.ss, s.h = i → s.up = u := fun s hs e => by
      have := h s hs
      rw [beq_iff_eq, upAt, List.getD_eq_getElem?_getD, show s.h.toNat = i by omega, hi, Option.getD_some] at this
      exact this.symm
    rw [Nat.zero_add]
    cases u with
    | true =>
      simp only [if_true, Uf, Bool.and_eq_true, Bool.not_eq_true', decide_eq_true_eq]
      refine ⟨hlt, ?_⟩
      rw [← Bool.not_eq_true, said_iff]
      rintro ⟨s, hs, h1, h2⟩
      rw [key s hs h2] at h1
      cases h1
    | false =>
      simp only [Bool.false_eq_true, if_false, Df, Bool.and_eq_true, Bool.not_eq_true', decide_eq_true_eq]
      refine ⟨hlt, ?_⟩
      rw [← Bool.not_eq_true, said_iff]
      rintro ⟨s, hs, h1, h2⟩
      rw [key s hs h2] at h1
      cases h1

theorem paths_truths (f : Fl) (hf : f.OK) : paths f f.hs.length 0 pole0 = (truths f).map (runK f.quiet pole0) := by
  rw [paths_eq]
  congr 1
  unfold truths
  apply List.filter_congr
  intro ks hks
  exact okK_right f hf ks (rows_len hks)

/-! ### What is counted -/
/-- For how many hours the flag is up, of those from one to another one. -/
def upC (a b : Int) : Nat → List Bool → Nat
  | _, [] => 0
  | h, u :: r => upC a b (h + 1) r + if u = true ∧ a ≤ (h : Int) ∧ (h : Int) < b then 1 else 0
abbrev upN (f : Fl) (a b : Int) (ks : List Nat) : Nat := upC a b 0 (ups f ks)
theorem sumF_up (q : Int) (a b : Int) : ∀ (p : Pole) (ks : List Nat) (h : Nat), sumF (.flown a b) h (runK q p ks) = (upC a b h (upsP q p ks) : Nat)
  | _, [], _ => rfl
  | p, k :: r, h => by
    rw [upsP_cons]
    simp only [runK, sumF, upC, sumF_up q a b, Tl.cnt, Int.natCast_add]
open Classical in
theorem prodF_only (q : Int) (a k : Int) : ∀ (p : Pole) (ks : List Nat) (h : Nat), prodF (.only a k) h (runK q p ks) = if ∃ i x : Nat, ks[i]? = some x ∧ ((h + i : Nat) : Int) = a ∧ (x : Int) ≠ k then 0 else 1
  | _, [], _ => by simp [runK, prodF]
  | p, x :: r, h => by
    simp only [runK, prodF, prodF_only q a k _ r (h + 1), Tl.cnt]
    have hex : (∃ i y : Nat, (x :: r)[i]? = some y ∧ ((h + i : Nat) : Int) = a ∧ (y : Int) ≠ k) ↔ ((h : Int) = a ∧ (x : Int) ≠ k) ∨ ∃ i y : Nat, r[i]? = some y ∧ ((h + 1 + i : Nat) : Int) = a ∧ (y : Int) ≠ k := by
      constructor
      · rintro ⟨i, y, h1, h2, h3⟩
        cases i with
        | zero => simp at h1; subst h1; exact .inl ⟨by simpa using h2, h3⟩
        | succ i => exact .inr ⟨i, y, by simpa using h1, by rw [← h2]; congr 1; omega, h3⟩
      · rintro (⟨h1, h2⟩ | ⟨i, y, h1, h2, h3⟩)
        · exact ⟨0, x, rfl, by simpa using h1, h2⟩
        · exact ⟨i + 1, y, by simpa using h1, by rw [← h2]; congr 1; omega, h3⟩
    by_cases c1 : ((h : Int) = a ∧ (x : Int) ≠ k)
    · rw [if_pos (hex.2 (.inl c1)), if_pos c1]; simp
    · rw [if_neg c1]
      by_cases c2 : ∃ i y : Nat, r[i]? = some y ∧ ((h + 1 + i : Nat) : Int) = a ∧ (y : Int) ≠ k
      · rw [if_pos c2, if_pos (hex.2 (.inr c2))]; simp
      · rw [if_neg c2, if_neg (fun h => (hex.1 h).elim c1 c2)]; simp

theorem allN_eq (f : Fl) (hf : f.OK) : allN f = (truths f).length := by
  unfold allN wN
  rw [waysV_eq, paths_truths f hf, List.map_map]
  have h1 : (prodF (.only (-1) 0) 0 ∘ runK f.quiet pole0) = fun _ => 1 := by
    funext ks
    simp only [Function.comp, prodF_only]
    rw [if_neg]
    rintro ⟨i, x, _, h, _⟩
    omega
  rw [h1]
  cases truths f with
  | nil => rfl
  | cons t l =>
    have : ∀ l : List (List Nat), (l.map fun _ => (1 : Int)).sum = l.length := fun l => by
      induction l with
      | nil => rfl
      | cons x l ih => simp only [List.map_cons, List.sum_cons, ih, List.length_cons]; omega
    simp only [List.map_cons, sumO, this, Option.getD_some, List.length_cons]
    omega
/-- In how many truths an hour has a kind. -/
def kindN (f : Fl) (h k : Nat) : Nat := (truths f).countP fun ks => ks[h]? == some k
theorem onlyN_eq (f : Fl) (hf : f.OK) (h k : Nat) (hh : h < f.hs.length) : wN f (.only h k) = kindN f h k := by
  unfold wN kindN
  rw [waysV_eq, paths_truths f hf, List.map_map]
  have h1 : ∀ ks ∈ truths f, (prodF (.only h k) 0 ∘ runK f.quiet pole0) ks = if ks[h]? == some k then 1 else 0 := fun ks hks => by
    have hl := truths_len hks
    have hg := List.getElem?_eq_getElem (show h < ks.length by omega)
    simp only [Function.comp, prodF_only]
    by_cases c : ks[h]? = some k
    · rw [if_neg, if_pos (by simpa using c)]
      rintro ⟨i, x, h1, h2, h3⟩
      have : i = h := by omega
      subst this
      rw [c] at h1
      cases h1
      exact h3 rfl
    · rw [if_pos, if_neg (by simpa using c)]
      exact ⟨h, ks[h], hg, by omega, fun e => c (by rw [hg]; congr 1; omega)⟩
  rw [List.map_congr_left h1]
  have hs : ∀ l : List (List Nat), (l.map fun ks => if ks[h]? == some k then (1 : Int) else 0).sum = (l.countP fun ks => ks[h]? == some k : Nat) := fun l => by
    induction l with
    | nil => rfl
    | cons x l ih =>
      simp only [List.map_cons, List.sum_cons, ih, List.countP_cons]
      split <;> omega
  cases hT : truths f with
  | nil => rfl
  | cons t l =>
    have := hs (t :: l)
    simp only [List.map_cons, List.sum_cons] at this
    simp only [List.map_cons, sumO, Option.getD_some]
    exact this
theorem spO_eq (f : Fl) (hf : f.OK) (a b : Int) : spO f (.flown a b) = hullO ((truths f).map fun ks => ((upN f a b ks : Nat) : Int)) := by
  unfold spO
  rw [spanV_eq, paths_truths f hf, List.map_map]
  congr 1
  apply List.map_congr_left
  intro ks _
  exact sumF_up _ _ _ _ _ _
end Go.Proofs.YtkbjodmpmmnhgaaDoor

/- Sets of hours; the first functions of the package. -/
namespace Go.Proofs.YtkbjodmpmmnhgaaDoor
open Go Go.Ab

theorem upC_pos (a b : Int) : ∀ (h : Nat) (l : List Bool), 0 < upC a b h l ↔ ∃ i : Nat, l[i]? = some true ∧ a ≤ ((h + i : Nat) : Int) ∧ ((h + i : Nat) : Int) < b
  | h, [] => by simp [upC]
  | h, u :: r => by
    have ih := upC_pos a b (h + 1) r
    simp only [upC]
    constructor
    · intro h1
      by_cases c : u = true ∧ a ≤ (h : Int) ∧ (h : Int) < b
      · exact ⟨0, by simp [c.1], by simpa using c.2⟩
      · rw [if_neg c] at h1
        obtain ⟨i, h2, h3, h4⟩ := ih.1 (by omega)
        exact ⟨i + 1, by simpa using h2, by omega, by omega⟩
    · rintro ⟨i, h2, h3, h4⟩
      cases i with
      | zero => rw [if_pos ⟨by simpa using h2, by simpa using h3, by simpa using h4⟩]; omega
      | succ i =>
        have := ih.2 ⟨i, by simpa using h2, by omega, by omega⟩
        omega
theorem upC_one (a : Nat) : ∀ (h : Nat) (l : List Bool), upC a (a + 1) h l ≤ 1
  | h, [] => by simp [upC]
  | h, u :: r => by
    have ih := upC_one a (h + 1) r
    simp only [upC]
    by_cases c : u = true ∧ (a : Int) ≤ (h : Int) ∧ (h : Int) < (a : Int) + 1
    · have : ¬ 0 < upC a ((a : Int) + 1) (h + 1) r := by
        rw [upC_pos]
        rintro ⟨i, _, h3, h4⟩
        omega
      rw [if_pos c]
      omega
    · rw [if_neg c]; omega
theorem upN_one (f : Fl) (h : Nat) (ks : List Nat) : upN f h (h + 1) ks = if upAt f ks h then 1 else 0 := by
  have h1 := upC_one h 0 (ups f ks)
  have h2 := upC_pos h (h + 1) 0 (ups f ks)
  have h3 : (∃ i : Nat, (ups f ks)[i]? = some true ∧ (h : Int) ≤ ((0 + i : Nat) : Int) ∧ ((0 + i : Nat) : Int) < (h : Int) + 1) ↔ upAt f ks h = true := by
    unfold upAt
    rw [List.getD_eq_getElem?_getD]
    constructor
    · rintro ⟨i, h4, h5, h6⟩
      have : i = h := by omega
      subst this
      rw [h4]; rfl
    · intro h4
      refine ⟨h, ?_, by omega, by omega⟩
      cases hg : (ups f ks)[h]? with
      | none => rw [hg] at h4; cases h4
      | some u => rw [hg] at h4; simp at h4; rw [h4]
  rw [h3] at h2
  unfold upN
  split
  · rename_i c; have := h2.2 c; omega
  · rename_i c
    have : ¬ 0 < upC h (h + 1) 0 (ups f ks) := fun h => c (h2.1 h)
    omega

def b01 : Bool → Int
  | true => 1
  | false => 0
theorem b01_ite (b : Bool) : (if b then (1 : Int) else 0) = b01 b := by cases b <;> rfl
theorem hullO_01 {α : Type} (p : α → Bool) (l : List α) : hullO (l.map fun x => b01 (p x)) = if l.isEmpty then none else some (b01 (l.all p), b01 (l.any p)) := by
  have h1 : ∀ (l : List α) (c : Bool), (l.map fun x => b01 (p x)).foldl min (b01 c) = b01 (c && l.all p) := fun l => by
    induction l with
    | nil => intro c; simp
    | cons x l ih =>
      intro c
      have : min (b01 c) (b01 (p x)) = b01 (c && p x) := by cases c <;> cases p x <;> rfl
      simp only [List.map_cons, List.foldl_cons, List.all_cons, this, ih, Bool.and_assoc]
  have h2 : ∀ (l : List α) (c : Bool), (l.map fun x => b01 (p x)).foldl max (b01 c) = b01 (c || l.any p) := fun l => by
    induction l with
    | nil => intro c; simp
    | cons x l ih =>
      intro c
      have : max (b01 c) (b01 (p x)) = b01 (c || p x) := by cases c <;> cases p x <;> rfl
      simp only [List.map_cons, List.foldl_cons, List.any_cons, this, ih, Bool.or_assoc]
  cases l with
  | nil => rfl
  | cons x l => simp only [List.map_cons, hullO, h1, h2, List.all_cons, List.any_cons, List.isEmpty_cons, Bool.false_eq_true, if_false]
theorem foldl_min_mem' : ∀ (l : List Int) (z : Int), l.foldl min z ∈ z :: l ∧ ∀ x ∈ z :: l, l.foldl min z ≤ x
  | [], z => by simp
  | y :: l, z => by
    obtain ⟨h1, h2⟩ := foldl_min_mem' l (min z y)
    simp only [List.foldl_cons]
    constructor
    · rcases List.mem_cons.1 h1 with h | h
      · by_cases c : z ≤ y
        · rw [show min z y = z by omega] at h; rw [show min z y = z by omega, h]; simp
        · rw [show min z y = y by omega] at h; rw [show min z y = y by omega, h]; simp
      · simp [h]
    · intro x hx
      have hz := h2 (min z y) (by simp)
      simp only [List.mem_cons] at hx
      rcases hx with rfl | rfl | hx
      · omega
      · omega
      · exact h2 x (by simp [hx])
theorem foldl_max_mem' : ∀ (l : List Int) (z : Int), l.foldl max z ∈ z :: l ∧ ∀ x ∈ z :: l, x ≤ l.foldl max z
  | [], z => by simp
  | y :: l, z => by
    obtain ⟨h1, h2⟩ := foldl_max_mem' l (max z y)
    simp only [List.foldl_cons]
    constructor
    · rcases List.mem_cons.1 h1 with h | h
      · by_cases c : y ≤ z
        · rw [show max z y = z by omega] at h; rw [show max z y = z by omega, h]; simp
        · rw [show max z y = y by omega] at h; rw [show max z y = y by omega, h]; simp
      · simp [h]
    · intro x hx
      have hz := h2 (max z y) (by simp)
      simp only [List.mem_cons] at hx
      rcases hx with rfl | rfl | hx
      · omega
      · omega
      · exact h2 x (by simp [hx])
theorem hullO_spec {l : List Int} {s : Int × Int} (h : hullO l = some s) : s.1 ∈ l ∧ s.2 ∈ l ∧ ∀ x ∈ l, s.1 ≤ x ∧ x ≤ s.2 := by
  cases l with
  | nil => cases h
  | cons x l =>
    cases h
    obtain ⟨a1, a2⟩ := foldl_min_mem' l x
    obtain ⟨b1, b2⟩ := foldl_max_mem' l x
    exact ⟨a1, b1, fun y hy => ⟨a2 y hy, b2 y hy⟩⟩
theorem hullO_none {l : List Int} : hullO l = none ↔ l = [] := by cases l <;> simp [hullO]

def sure (f : Fl) (h : Nat) : Bool := (truths f).all fun ks => upAt f ks h
def perh (f : Fl) (h : Nat) : Bool := (truths f).any fun ks => upAt f ks h
def noT (f : Fl) : Bool := (truths f).isEmpty
theorem spO_one (f : Fl) (hf : f.OK) (h : Nat) : spO f (.flown h (h + 1)) = if noT f then none else some (b01 (sure f h), b01 (perh f h)) := by
  rw [spO_eq f hf]
  have : ((truths f).map fun ks => ((upN f h (h + 1) ks : Nat) : Int)) = (truths f).map fun ks => b01 (upAt f ks h) := by
    apply List.map_congr_left
    intro ks _
    rw [upN_one, ← b01_ite]
    split <;> rfl
  rw [this, hullO_01]
  rfl

def maskOf (p : Nat → Bool) : Nat → Nat
  | 0 => 0
  | k + 1 => if p k then maskOf p k ||| 2 ^ k else maskOf p k
theorem maskOf_lt (p : Nat → Bool) : ∀ k, maskOf p k < 2 ^ k
  | 0 => by simp [maskOf]
  | k + 1 => by
    have ih := maskOf_lt p k
    have h2 : 2 ^ (k + 1) = 2 ^ k + 2 ^ k := by rw [Nat.pow_succ]; omega
    simp only [maskOf]
    split
    · exact Nat.or_lt_two_pow (by omega) (by omega)
    · omega
theorem maskOf_bit (p : Nat → Bool) : ∀ k i, (maskOf p k).testBit i = (decide (i < k) && p i)
  | 0, i => by simp [maskOf]
  | k + 1, i => by
    simp only [maskOf]
    have ih := maskOf_bit p k i
    by_cases hi : i = k
    · subst hi
      cases hp : p i with
      | true => simp [ih]
      | false => simp [ih]
    · have e : decide (i < k + 1) = decide (i < k) := decide_eq_decide.2 (by omega)
      have e2 : (2 ^ k).testBit i = false := by rw [Nat.testBit_two_pow]; simp; omega
      split
      · rw [Nat.testBit_or, ih, e2, e]; simp
      · rw [ih, e]

theorem or_bit {m k : Nat} (hm : m < 2 ^ k) (hk : k < 60) (c : Bool) : bits .or .i64 (m : Int) (IntKind.i64.wrap (b01 c * 2 ^ min k 64)) = ((if c then m ||| 2 ^ k else m : Nat) : Int) := by
  have h2 : 2 ^ k < 9223372036854775808 := Nat.lt_of_lt_of_le (Nat.pow_lt_pow_right (by decide) hk) (by decide)
  cases c with
  | true =>
    simp only [if_true, b01]
    rw [shl_one (by omega), bits_or (by omega) h2]
  | false =>
    simp only [Bool.false_eq_true, if_false, Int.zero_mul, b01]
    rw [show IntKind.i64.wrap 0 = ((0 : Nat) : Int) from rfl, bits_or (by omega) (by omega), Nat.or_zero]

abbrev setsO (f : Fl) : Out := if noT f && decide (0 < f.hs.length) then .pan (rfs 10) else .ret (.tup [.t (vi (maskOf (sure f) f.hs.length : Nat)), .t (vi (maskOf (perh f) f.hs.length : Nat))])

set_option maxRecDepth 4000 in
theorem sets_ok (f : Fl) (hf : f.OK) : ACall Tryd.prog 52 [.t (tBch f)] [] (res (setsO f)) := by
  refine ACall.walk k52 ?_
  unfold c52
  have hn := hf.nh
  simp only [tBch, go_sem, Nat.reduceEqDiff, Nat.reduceAdd, Nat.reduceSub, Nat.reduceMul, Nat.reduceLT, Nat.reduceLeDiff, Nat.reduceMod, Nat.reduceDiv, Int.reduceToNat, Int.reduceLT, Int.reduceLE, Bool.not_true, Bool.not_false, reduceIte, Int.reduceEq, Int.reduceBEq, Int.reduceBNe, Int.reduceGT, Int.reduceGE, Int.reduceNeg, Int.reduceAdd, Int.reduceSub, Nat.reduceBEq, decide_true, decide_false, undef, beq_self_eq_true, bne_self_eq_false, Bool.and_true, Bool.true_and, Bool.and_false, Bool.false_and, Bool.or_true, Bool.true_or, Bool.or_false, Bool.false_or, cellsB_3, List.length_map]
  refine awpL_for (i := 12) (L := 11) f.hs.length (fun k s => (0 < k → noT f = false) ∧ s = { env := [(12, .t (vi k)), (11, .t (vi f.hs.length)), (0, .t (tBch f)), (2, .t (vi (maskOf (sure f) k : Nat))), (3, .t (vi (maskOf (perh f) k : Nat)))], σ := [] }) ?_ ⟨_, Sub.gc [] [12, 11, 0, 2, 3] rfl rfl, by simp, rfl⟩ ?_ ?_
  · rintro k s ⟨_, rfl⟩; exact ⟨rfl, rfl⟩
  · rintro k s hk ⟨_, rfl⟩
    have hw : IntKind.i64.wrap ((k : Int) + 1) = ((k + 1 : Nat) : Int) := by rw [wrap_id (by omega) (by omega)]; omega
    have hw2 : IntKind.i64.wrap ((k : Int) + 1) = (k : Int) + 1 := wrap_id (by omega) (by omega)
    have h56 := span_ok f hf (.flown k (k + 1))
    have hsp := spO_one f hf k
    unfold spanO at h56
    rw [hsp] at h56
    have o1 := or_bit (maskOf_lt (sure f) k) (by omega) (sure f k)
    have o2 := or_bit (maskOf_lt (perh f) k) (by omega) (perh f k)
    have m1 : maskOf (sure f) (k + 1) = if sure f k then maskOf (sure f) k ||| 2 ^ k else maskOf (sure f) k := rfl
    have m2 : maskOf (perh f) (k + 1) = if perh f k then maskOf (perh f) k ||| 2 ^ k else maskOf (perh f) k := rfl
    rw [← m1] at o1
    rw [← m2] at o2
    cases hT : noT f with
    | true =>
      rw [hT] at h56
      simp only [if_true] at h56
      simp only [go_sem, Nat.reduceEqDiff, Nat.reduceAdd, Nat.reduceSub, Nat.reduceMul, Nat.reduceLT, Nat.reduceLeDiff, Nat.reduceMod, Nat.reduceDiv, Int.reduceToNat, Int.reduceLT, Int.reduceLE, Bool.not_true, Bool.not_false, reduceIte, Int.reduceEq, Int.reduceBEq, Int.reduceBNe, Int.reduceGT, Int.reduceGE, Int.reduceNeg, Int.reduceAdd, Int.reduceSub, Nat.reduceBEq, decide_true, decide_false, undef, beq_self_eq_true, bne_self_eq_false, Bool.and_true, Bool.true_and, Bool.and_false, Bool.false_and, Bool.or_true, Bool.true_or, Bool.or_false, Bool.false_or, hw2]
      refine ACallL.fresh1 h56 rfl ?_
      simp only [go_sem, Nat.reduceEqDiff, Nat.reduceAdd, Nat.reduceSub, Nat.reduceMul, Nat.reduceLT, Nat.reduceLeDiff, Nat.reduceMod, Nat.reduceDiv, Int.reduceToNat, Int.reduceLT, Int.reduceLE, Bool.not_true, Bool.not_false, reduceIte, Int.reduceEq, Int.reduceBEq, Int.reduceBNe, Int.reduceGT, Int.reduceGE, Int.reduceNeg, Int.reduceAdd, Int.reduceSub, Nat.reduceBEq, decide_true, decide_false, undef, beq_self_eq_true, bne_self_eq_false, Bool.and_true, Bool.true_and, Bool.and_false, Bool.false_and, Bool.or_true, Bool.true_or, Bool.or_false, Bool.false_or]
      exact finL_pan [] ⟨rfl, rfl, rfl, rfl, res_mk (by
        have : decide (0 < f.hs.length) = true := by simp; omega
        simp only [setsO, hT, this]; rfl)⟩
    | false =>
      rw [hT] at h56
      simp only [Bool.false_eq_true, if_false, tSp] at h56
      simp only [go_sem, Nat.reduceEqDiff, Nat.reduceAdd, Nat.reduceSub, Nat.reduceMul, Nat.reduceLT, Nat.reduceLeDiff, Nat.reduceMod, Nat.reduceDiv, Int.reduceToNat, Int.reduceLT, Int.reduceLE, Bool.not_true, Bool.not_false, reduceIte, Int.reduceEq, Int.reduceBEq, Int.reduceBNe, Int.reduceGT, Int.reduceGE, Int.reduceNeg, Int.reduceAdd, Int.reduceSub, Nat.reduceBEq, decide_true, decide_false, undef, beq_self_eq_true, bne_self_eq_false, Bool.and_true, Bool.true_and, Bool.and_false, Bool.false_and, Bool.or_true, Bool.true_or, Bool.or_false, Bool.false_or, hw2]
      refine ACallL.fresh1 h56 rfl ?_
      simp only [go_sem, Nat.reduceEqDiff, Nat.reduceAdd, Nat.reduceSub, Nat.reduceMul, Nat.reduceLT, Nat.reduceLeDiff, Nat.reduceMod, Nat.reduceDiv, Int.reduceToNat, Int.reduceLT, Int.reduceLE, Bool.not_true, Bool.not_false, reduceIte, Int.reduceEq, Int.reduceBEq, Int.reduceBNe, Int.reduceGT, Int.reduceGE, Int.reduceNeg, Int.reduceAdd, Int.reduceSub, Nat.reduceBEq, decide_true, decide_false, undef, beq_self_eq_true, bne_self_eq_false, Bool.and_true, Bool.true_and, Bool.and_false, Bool.false_and, Bool.or_true, Bool.true_or, Bool.or_false, Bool.false_or, nat_neg, o1, o2, hw]
      exact ⟨_, Sub.gc [] [12, 11, 0, 2, 3] rfl rfl, rfl⟩
  · rintro s ⟨hT, rfl⟩
    simp only [go_sem, Nat.reduceEqDiff, Nat.reduceAdd, Nat.reduceSub, Nat.reduceMul, Nat.reduceLT, Nat.reduceLeDiff, Nat.reduceMod, Nat.reduceDiv, Int.reduceToNat, Int.reduceLT, Int.reduceLE, Bool.not_true, Bool.not_false, reduceIte, Int.reduceEq, Int.reduceBEq, Int.reduceBNe, Int.reduceGT, Int.reduceGE, Int.reduceNeg, Int.reduceAdd, Int.reduceSub, Nat.reduceBEq, decide_true, decide_false, undef, beq_self_eq_true, bne_self_eq_false, Bool.and_true, Bool.true_and, Bool.and_false, Bool.false_and, Bool.or_true, Bool.true_or, Bool.or_false, Bool.false_or]
    refine finL_ret [] ⟨rfl, rfl, rfl, rfl, _, rfl, res_mk ?_⟩
    have : (noT f && decide (0 < f.hs.length)) = false := by
      by_cases c : 0 < f.hs.length
      · rw [hT c]; rfl
      · simp [c]
    simp only [setsO, this]
    rfl
end Go.Proofs.YtkbjodmpmmnhgaaDoor

/- The functions of package flag: what each hands back. -/
namespace Go.Proofs.YtkbjodmpmmnhgaaDoor
open Go Go.Ab

def oneE (a e : Int) : Out := .ret (.tup [.t (vi a), .t (vi e)])
def twoE (a b e : Int) : Out := .ret (.tup [.t (vi a), .t (vi b), .t (vi e)])
def spanE (s : Int × Int) (e : Int) : Out := .ret (.tup [.t (tSp s), .t (vi e)])
/-- Is a number that of an hour? -/
def Fl.isH (f : Fl) (h : Int) : Bool := wI h 0 (f.hs.length - 1)

theorem isH_iff {f : Fl} {h : Int} : f.isH h = true ↔ 0 ≤ h ∧ h < f.hs.length := by unfold Fl.isH wI; simp; omega

/-! ### Kinds -/
def specKinds (f : Fl) (h : Int) : Int × Int := if f.ok then (if f.isH h then ((Kf f h.toNat : Nat), 0) else (0, 2)) else (0, 1)

set_option maxRecDepth 4000 in
theorem Kinds_ok (f : Fl) (h : Int) (hl : f.hs.length < 9223372036854775808 ∧ f.ss.length < 9223372036854775808) : ACall Tryd.prog 15 [.t (.agg (fl5 f)), .t (vi h)] [] (res (oneE (specKinds f h).1 (specKinds f h).2)) := by
  refine ACall.walkD k15 ?_
  unfold c15 fl5
  have e1 : IntKind.i64.wrap ((f.hs.length : Int) - 1) = f.hs.length - 1 := wrap_id (by omega) (by omega)
  have h45 := open_ok f (f.isH h) hl
  simp only [fl5] at h45
  simp only [go_sem, Nat.reduceEqDiff, Nat.reduceAdd, Nat.reduceSub, Nat.reduceMul, Nat.reduceLT, Nat.reduceLeDiff, Nat.reduceMod, Nat.reduceDiv, Int.reduceToNat, Int.reduceLT, Int.reduceLE, Bool.not_true, Bool.not_false, reduceIte, Int.reduceEq, Int.reduceBEq, Int.reduceBNe, Int.reduceGT, Int.reduceGE, Int.reduceNeg, Int.reduceAdd, Int.reduceSub, Nat.reduceBEq, decide_true, decide_false, undef, beq_self_eq_true, bne_self_eq_false, Bool.and_true, Bool.true_and, Bool.and_false, Bool.false_and, Bool.or_true, Bool.true_or, Bool.or_false, Bool.false_or, List.length_map, e1]
  refine ACallL.quiet1 (within_ok _ _ _) rfl rfl rfl ?_
  simp only [go_sem, Nat.reduceEqDiff, Nat.reduceAdd, Nat.reduceSub, Nat.reduceMul, Nat.reduceLT, Nat.reduceLeDiff, Nat.reduceMod, Nat.reduceDiv, Int.reduceToNat, Int.reduceLT, Int.reduceLE, Bool.not_true, Bool.not_false, reduceIte, Int.reduceEq, Int.reduceBEq, Int.reduceBNe, Int.reduceGT, Int.reduceGE, Int.reduceNeg, Int.reduceAdd, Int.reduceSub, Nat.reduceBEq, decide_true, decide_false, undef, beq_self_eq_true, bne_self_eq_false, Bool.and_true, Bool.true_and, Bool.and_false, Bool.false_and, Bool.or_true, Bool.true_or, Bool.or_false, Bool.false_or, List.length_map]
  refine ACallL.fresh1 h45 rfl ?_
  cases hok : f.ok
  · simp only [openO, hok, go_sem, Nat.reduceEqDiff, Nat.reduceAdd, Nat.reduceSub, Nat.reduceMul, Nat.reduceLT, Nat.reduceLeDiff, Nat.reduceMod, Nat.reduceDiv, Int.reduceToNat, Int.reduceLT, Int.reduceLE, Bool.not_true, Bool.not_false, reduceIte, Int.reduceEq, Int.reduceBEq, Int.reduceBNe, Int.reduceGT, Int.reduceGE, Int.reduceNeg, Int.reduceAdd, Int.reduceSub, Nat.reduceBEq, decide_true, decide_false, undef, beq_self_eq_true, bne_self_eq_false, Bool.and_true, Bool.true_and, Bool.and_false, Bool.false_and, Bool.or_true, Bool.true_or, Bool.or_false, Bool.false_or]
    refine finDL_pan rfl rfl ((answer_pan rfl).mono fun σ' h => ?_)
    subst h
    exact ⟨_, rfl, [], rfl, rfl, res_mk (by simp only [specKinds, hok]; rfl)⟩
  · cases hB : f.isH h
    · simp only [openO, hok, go_sem, Nat.reduceEqDiff, Nat.reduceAdd, Nat.reduceSub, Nat.reduceMul, Nat.reduceLT, Nat.reduceLeDiff, Nat.reduceMod, Nat.reduceDiv, Int.reduceToNat, Int.reduceLT, Int.reduceLE, Bool.not_true, Bool.not_false, reduceIte, Int.reduceEq, Int.reduceBEq, Int.reduceBNe, Int.reduceGT, Int.reduceGE, Int.reduceNeg, Int.reduceAdd, Int.reduceSub, Nat.reduceBEq, decide_true, decide_false, undef, beq_self_eq_true, bne_self_eq_false, Bool.and_true, Bool.true_and, Bool.and_false, Bool.false_and, Bool.or_true, Bool.true_or, Bool.or_false, Bool.false_or]
      refine finDL_pan rfl rfl ((answer_pan rfl).mono fun σ' h => ?_)
      subst h
      exact ⟨_, rfl, [], rfl, rfl, res_mk (by simp only [specKinds, hok, hB]; rfl)⟩
    · obtain ⟨h0, h1⟩ := isH_iff.1 hB
      have hn := ((f.ok_iff).1 hok).nh
      obtain ⟨n, rfl⟩ : ∃ n : Nat, h = n := ⟨h.toNat, by omega⟩
      have hh' : (n : Int) < 9 := by omega
      have hK := fun K U D => cellsB_K f K U D (show n < 9 by omega)
      simp only [openO, hok, tBch, go_sem, Nat.reduceEqDiff, Nat.reduceAdd, Nat.reduceSub, Nat.reduceMul, Nat.reduceLT, Nat.reduceLeDiff, Nat.reduceMod, Nat.reduceDiv, Int.reduceToNat, Int.reduceLT, Int.reduceLE, Bool.not_true, Bool.not_false, reduceIte, Int.reduceEq, Int.reduceBEq, Int.reduceBNe, Int.reduceGT, Int.reduceGE, Int.reduceNeg, Int.reduceAdd, Int.reduceSub, Nat.reduceBEq, decide_true, decide_false, undef, beq_self_eq_true, bne_self_eq_false, Bool.and_true, Bool.true_and, Bool.and_false, Bool.false_and, Bool.or_true, Bool.true_or, Bool.or_false, Bool.false_or, hh', Nat.mul_one, hK, List.length_map]
      refine finDL_ret rfl rfl (answer_none.mono fun σ' h => ?_)
      subst h
      exact ⟨_, rfl, [], rfl, rfl, res_mk (by simp only [specKinds, hok, hB]; rfl)⟩

/-! ### Count -/
def specCount (f : Fl) : Int × Int := if f.ok then ((truths f).length, 0) else (0, 1)

theorem Count_ok (f : Fl) (hl : f.hs.length < 9223372036854775808 ∧ f.ss.length < 9223372036854775808) : ACall Tryd.prog 19 [.t (.agg (fl5 f))] [] (res (oneE (specCount f).1 (specCount f).2)) := by
  refine ACall.walkD k19 ?_
  have h45 := open_ok f true hl
  unfold c19 fl5
  simp only [fl5] at h45
  simp only [go_sem, Nat.reduceEqDiff, Nat.reduceAdd, Nat.reduceSub, Nat.reduceMul, Nat.reduceLT, Nat.reduceLeDiff, Nat.reduceMod, Nat.reduceDiv, Int.reduceToNat, Int.reduceLT, Int.reduceLE, Bool.not_true, Bool.not_false, reduceIte, Int.reduceEq, Int.reduceBEq, Int.reduceBNe, Int.reduceGT, Int.reduceGE, Int.reduceNeg, Int.reduceAdd, Int.reduceSub, Nat.reduceBEq, decide_true, decide_false, undef, beq_self_eq_true, bne_self_eq_false, Bool.and_true, Bool.true_and, Bool.and_false, Bool.false_and, Bool.or_true, Bool.true_or, Bool.or_false, Bool.false_or]
  refine ACallL.fresh1 h45 rfl ?_
  cases hok : f.ok
  · simp only [openO, hok, go_sem, Nat.reduceEqDiff, Nat.reduceAdd, Nat.reduceSub, Nat.reduceMul, Nat.reduceLT, Nat.reduceLeDiff, Nat.reduceMod, Nat.reduceDiv, Int.reduceToNat, Int.reduceLT, Int.reduceLE, Bool.not_true, Bool.not_false, reduceIte, Int.reduceEq, Int.reduceBEq, Int.reduceBNe, Int.reduceGT, Int.reduceGE, Int.reduceNeg, Int.reduceAdd, Int.reduceSub, Nat.reduceBEq, decide_true, decide_false, undef, beq_self_eq_true, bne_self_eq_false, Bool.and_true, Bool.true_and, Bool.and_false, Bool.false_and, Bool.or_true, Bool.true_or, Bool.or_false, Bool.false_or]
    refine finDL_pan rfl rfl ((answer_pan rfl).mono fun σ' h => ?_)
    subst h
    exact ⟨_, rfl, [], rfl, rfl, res_mk (by simp only [specCount, hok]; rfl)⟩
  · have hf := (f.ok_iff).1 hok
    have h51 := all_ok f hf
    rw [allN_eq f hf] at h51
    simp only [openO, hok, go_sem, Nat.reduceEqDiff, Nat.reduceAdd, Nat.reduceSub, Nat.reduceMul, Nat.reduceLT, Nat.reduceLeDiff, Nat.reduceMod, Nat.reduceDiv, Int.reduceToNat, Int.reduceLT, Int.reduceLE, Bool.not_true, Bool.not_false, reduceIte, Int.reduceEq, Int.reduceBEq, Int.reduceBNe, Int.reduceGT, Int.reduceGE, Int.reduceNeg, Int.reduceAdd, Int.reduceSub, Nat.reduceBEq, decide_true, decide_false, undef, beq_self_eq_true, bne_self_eq_false, Bool.and_true, Bool.true_and, Bool.and_false, Bool.false_and, Bool.or_true, Bool.true_or, Bool.or_false, Bool.false_or]
    refine ACallL.fresh1 h51 rfl ?_
    simp only [openO, hok, go_sem, Nat.reduceEqDiff, Nat.reduceAdd, Nat.reduceSub, Nat.reduceMul, Nat.reduceLT, Nat.reduceLeDiff, Nat.reduceMod, Nat.reduceDiv, Int.reduceToNat, Int.reduceLT, Int.reduceLE, Bool.not_true, Bool.not_false, reduceIte, Int.reduceEq, Int.reduceBEq, Int.reduceBNe, Int.reduceGT, Int.reduceGE, Int.reduceNeg, Int.reduceAdd, Int.reduceSub, Nat.reduceBEq, decide_true, decide_false, undef, beq_self_eq_true, bne_self_eq_false, Bool.and_true, Bool.true_and, Bool.and_false, Bool.false_and, Bool.or_true, Bool.true_or, Bool.or_false, Bool.false_or]
    refine finDL_ret rfl rfl (answer_none.mono fun σ' h => ?_)
    subst h
    exact ⟨_, rfl, [], rfl, rfl, res_mk (by simp only [specCount, hok]; rfl)⟩

/-! ### Long -/
/-- For how many hours the flag is up, of those from one to another one, at least and at most. -/
def hullU (f : Fl) (a b : Int) : Option (Int × Int) := hullO ((truths f).map fun ks => ((upN f a b ks : Nat) : Int))
def specLong (f : Fl) : (Int × Int) × Int := if f.ok then (match hullU f 0 f.hs.length with | some s => (s, 0) | none => ((0, 0), 10)) else ((0, 0), 1)

theorem Long_ok (f : Fl) (hl : f.hs.length < 9223372036854775808 ∧ f.ss.length < 9223372036854775808) : ACall Tryd.prog 21 [.t (.agg (fl5 f))] [] (res (spanE (specLong f).1 (specLong f).2)) := by
  refine ACall.walkD k21 ?_
  have h45 := open_ok f true hl
  unfold c21 fl5
  simp only [fl5] at h45
  simp only [go_sem, Nat.reduceEqDiff, Nat.reduceAdd, Nat.reduceSub, Nat.reduceMul, Nat.reduceLT, Nat.reduceLeDiff, Nat.reduceMod, Nat.reduceDiv, Int.reduceToNat, Int.reduceLT, Int.reduceLE, Bool.not_true, Bool.not_false, reduceIte, Int.reduceEq, Int.reduceBEq, Int.reduceBNe, Int.reduceGT, Int.reduceGE, Int.reduceNeg, Int.reduceAdd, Int.reduceSub, Nat.reduceBEq, decide_true, decide_false, undef, beq_self_eq_true, bne_self_eq_false, Bool.and_true, Bool.true_and, Bool.and_false, Bool.false_and, Bool.or_true, Bool.true_or, Bool.or_false, Bool.false_or, List.length_map]
  refine ACallL.fresh1 h45 rfl ?_
  cases hok : f.ok
  · simp only [openO, hok, go_sem, Nat.reduceEqDiff, Nat.reduceAdd, Nat.reduceSub, Nat.reduceMul, Nat.reduceLT, Nat.reduceLeDiff, Nat.reduceMod, Nat.reduceDiv, Int.reduceToNat, Int.reduceLT, Int.reduceLE, Bool.not_true, Bool.not_false, reduceIte, Int.reduceEq, Int.reduceBEq, Int.reduceBNe, Int.reduceGT, Int.reduceGE, Int.reduceNeg, Int.reduceAdd, Int.reduceSub, Nat.reduceBEq, decide_true, decide_false, undef, beq_self_eq_true, bne_self_eq_false, Bool.and_true, Bool.true_and, Bool.and_false, Bool.false_and, Bool.or_true, Bool.true_or, Bool.or_false, Bool.false_or]
    refine finDL_pan rfl rfl ((answer_pan rfl).mono fun σ' h => ?_)
    subst h
    exact ⟨_, rfl, [], rfl, rfl, res_mk (by simp only [specLong, hok]; rfl)⟩
  · have hf := (f.ok_iff).1 hok
    have h56 := span_ok f hf (.flown 0 f.hs.length)
    unfold spanO at h56
    rw [spO_eq f hf] at h56
    simp only [openO, hok, go_sem, Nat.reduceEqDiff, Nat.reduceAdd, Nat.reduceSub, Nat.reduceMul, Nat.reduceLT, Nat.reduceLeDiff, Nat.reduceMod, Nat.reduceDiv, Int.reduceToNat, Int.reduceLT, Int.reduceLE, Bool.not_true, Bool.not_false, reduceIte, Int.reduceEq, Int.reduceBEq, Int.reduceBNe, Int.reduceGT, Int.reduceGE, Int.reduceNeg, Int.reduceAdd, Int.reduceSub, Nat.reduceBEq, decide_true, decide_false, undef, beq_self_eq_true, bne_self_eq_false, Bool.and_true, Bool.true_and, Bool.and_false, Bool.false_and, Bool.or_true, Bool.true_or, Bool.or_false, Bool.false_or, List.length_map]
    refine ACallL.fresh1 h56 rfl ?_
    cases hs : hullO ((truths f).map fun ks => ((upN f 0 f.hs.length ks : Nat) : Int)) with
    | none =>
      simp only [openO, hok, go_sem, Nat.reduceEqDiff, Nat.reduceAdd, Nat.reduceSub, Nat.reduceMul, Nat.reduceLT, Nat.reduceLeDiff, Nat.reduceMod, Nat.reduceDiv, Int.reduceToNat, Int.reduceLT, Int.reduceLE, Bool.not_true, Bool.not_false, reduceIte, Int.reduceEq, Int.reduceBEq, Int.reduceBNe, Int.reduceGT, Int.reduceGE, Int.reduceNeg, Int.reduceAdd, Int.reduceSub, Nat.reduceBEq, decide_true, decide_false, undef, beq_self_eq_true, bne_self_eq_false, Bool.and_true, Bool.true_and, Bool.and_false, Bool.false_and, Bool.or_true, Bool.true_or, Bool.or_false, Bool.false_or]
      refine finDL_pan rfl rfl ((answer_pan rfl).mono fun σ' h => ?_)
      subst h
      exact ⟨_, rfl, [], rfl, rfl, res_mk (by simp only [specLong, hok, hullU, hs]; rfl)⟩
    | some s =>
      obtain ⟨a, b⟩ := s
      simp only [tSp, go_sem, Nat.reduceEqDiff, Nat.reduceAdd, Nat.reduceSub, Nat.reduceMul, Nat.reduceLT, Nat.reduceLeDiff, Nat.reduceMod, Nat.reduceDiv, Int.reduceToNat, Int.reduceLT, Int.reduceLE, Bool.not_true, Bool.not_false, reduceIte, Int.reduceEq, Int.reduceBEq, Int.reduceBNe, Int.reduceGT, Int.reduceGE, Int.reduceNeg, Int.reduceAdd, Int.reduceSub, Nat.reduceBEq, decide_true, decide_false, undef, beq_self_eq_true, bne_self_eq_false, Bool.and_true, Bool.true_and, Bool.and_false, Bool.false_and, Bool.or_true, Bool.true_or, Bool.or_false, Bool.false_or, List.length_map]
      refine finDL_ret rfl rfl (answer_none.mono fun σ' h => ?_)
      subst h
      exact ⟨_, rfl, [], rfl, rfl, res_mk (by simp only [specLong, hok, hullU, hs]; rfl)⟩

/-! ### Up -/
def specUp (f : Fl) : Int × Int × Int := if f.ok then (if noT f then (0, 0, 10) else ((maskOf (sure f) f.hs.length : Nat), (maskOf (perh f) f.hs.length : Nat), 0)) else (0, 0, 1)
theorem noT_len (f : Fl) : decide (((truths f).length : Int) > 0) = !noT f := by
  unfold noT
  cases truths f with
  | nil => rfl
  | cons x l => simp

theorem Up_ok (f : Fl) (hl : f.hs.length < 9223372036854775808 ∧ f.ss.length < 9223372036854775808) : ACall Tryd.prog 17 [.t (.agg (fl5 f))] [] (res (twoE (specUp f).1 (specUp f).2.1 (specUp f).2.2)) := by
  refine ACall.walkD k17 ?_
  have h45 := open_ok f true hl
  unfold c17 fl5
  simp only [fl5] at h45
  simp only [go_sem, Nat.reduceEqDiff, Nat.reduceAdd, Nat.reduceSub, Nat.reduceMul, Nat.reduceLT, Nat.reduceLeDiff, Nat.reduceMod, Nat.reduceDiv, Int.reduceToNat, Int.reduceLT, Int.reduceLE, Bool.not_true, Bool.not_false, reduceIte, Int.reduceEq, Int.reduceBEq, Int.reduceBNe, Int.reduceGT, Int.reduceGE, Int.reduceNeg, Int.reduceAdd, Int.reduceSub, Nat.reduceBEq, decide_true, decide_false, undef, beq_self_eq_true, bne_self_eq_false, Bool.and_true, Bool.true_and, Bool.and_false, Bool.false_and, Bool.or_true, Bool.true_or, Bool.or_false, Bool.false_or, List.length_map]
  refine ACallL.fresh1 h45 rfl ?_
  cases hok : f.ok
  · simp only [openO, hok, go_sem, Nat.reduceEqDiff, Nat.reduceAdd, Nat.reduceSub, Nat.reduceMul, Nat.reduceLT, Nat.reduceLeDiff, Nat.reduceMod, Nat.reduceDiv, Int.reduceToNat, Int.reduceLT, Int.reduceLE, Bool.not_true, Bool.not_false, reduceIte, Int.reduceEq, Int.reduceBEq, Int.reduceBNe, Int.reduceGT, Int.reduceGE, Int.reduceNeg, Int.reduceAdd, Int.reduceSub, Nat.reduceBEq, decide_true, decide_false, undef, beq_self_eq_true, bne_self_eq_false, Bool.and_true, Bool.true_and, Bool.and_false, Bool.false_and, Bool.or_true, Bool.true_or, Bool.or_false, Bool.false_or]
    refine finDL_pan rfl rfl ((answer_pan rfl).mono fun σ' h => ?_)
    subst h
    exact ⟨_, rfl, [], rfl, rfl, res_mk (by simp only [specUp, hok]; rfl)⟩
  · have hf := (f.ok_iff).1 hok
    have h51 := all_ok f hf
    rw [allN_eq f hf] at h51
    have h52 := sets_ok f hf
    simp only [openO, hok, go_sem, Nat.reduceEqDiff, Nat.reduceAdd, Nat.reduceSub, Nat.reduceMul, Nat.reduceLT, Nat.reduceLeDiff, Nat.reduceMod, Nat.reduceDiv, Int.reduceToNat, Int.reduceLT, Int.reduceLE, Bool.not_true, Bool.not_false, reduceIte, Int.reduceEq, Int.reduceBEq, Int.reduceBNe, Int.reduceGT, Int.reduceGE, Int.reduceNeg, Int.reduceAdd, Int.reduceSub, Nat.reduceBEq, decide_true, decide_false, undef, beq_self_eq_true, bne_self_eq_false, Bool.and_true, Bool.true_and, Bool.and_false, Bool.false_and, Bool.or_true, Bool.true_or, Bool.or_false, Bool.false_or]
    refine ACallL.fresh1 h51 rfl ?_
    simp only [openO, hok, go_sem, Nat.reduceEqDiff, Nat.reduceAdd, Nat.reduceSub, Nat.reduceMul, Nat.reduceLT, Nat.reduceLeDiff, Nat.reduceMod, Nat.reduceDiv, Int.reduceToNat, Int.reduceLT, Int.reduceLE, Bool.not_true, Bool.not_false, reduceIte, Int.reduceEq, Int.reduceBEq, Int.reduceBNe, Int.reduceGT, Int.reduceGE, Int.reduceNeg, Int.reduceAdd, Int.reduceSub, Nat.reduceBEq, decide_true, decide_false, undef, beq_self_eq_true, bne_self_eq_false, Bool.and_true, Bool.true_and, Bool.and_false, Bool.false_and, Bool.or_true, Bool.true_or, Bool.or_false, Bool.false_or, noT_len]
    refine ACallL.quiet1 (ask_ok _ 10) rfl rfl (by simp only [askO]; split <;> rfl) ?_
    cases hT : noT f
    · simp only [askO, go_sem, Nat.reduceEqDiff, Nat.reduceAdd, Nat.reduceSub, Nat.reduceMul, Nat.reduceLT, Nat.reduceLeDiff, Nat.reduceMod, Nat.reduceDiv, Int.reduceToNat, Int.reduceLT, Int.reduceLE, Bool.not_true, Bool.not_false, reduceIte, Int.reduceEq, Int.reduceBEq, Int.reduceBNe, Int.reduceGT, Int.reduceGE, Int.reduceNeg, Int.reduceAdd, Int.reduceSub, Nat.reduceBEq, decide_true, decide_false, undef, beq_self_eq_true, bne_self_eq_false, Bool.and_true, Bool.true_and, Bool.and_false, Bool.false_and, Bool.or_true, Bool.true_or, Bool.or_false, Bool.false_or]
      unfold setsO at h52
      rw [hT] at h52
      simp only [Bool.false_and, Bool.false_eq_true, if_false] at h52
      refine ACallL.fresh1 h52 rfl ?_
      simp only [openO, hok, go_sem, Nat.reduceEqDiff, Nat.reduceAdd, Nat.reduceSub, Nat.reduceMul, Nat.reduceLT, Nat.reduceLeDiff, Nat.reduceMod, Nat.reduceDiv, Int.reduceToNat, Int.reduceLT, Int.reduceLE, Bool.not_true, Bool.not_false, reduceIte, Int.reduceEq, Int.reduceBEq, Int.reduceBNe, Int.reduceGT, Int.reduceGE, Int.reduceNeg, Int.reduceAdd, Int.reduceSub, Nat.reduceBEq, decide_true, decide_false, undef, beq_self_eq_true, bne_self_eq_false, Bool.and_true, Bool.true_and, Bool.and_false, Bool.false_and, Bool.or_true, Bool.true_or, Bool.or_false, Bool.false_or]
      refine finDL_ret rfl rfl (answer_none.mono fun σ' h => ?_)
      subst h
      exact ⟨_, rfl, [], rfl, rfl, res_mk (by simp only [specUp, hok, hT]; rfl)⟩
    · simp only [askO, go_sem, Nat.reduceEqDiff, Nat.reduceAdd, Nat.reduceSub, Nat.reduceMul, Nat.reduceLT, Nat.reduceLeDiff, Nat.reduceMod, Nat.reduceDiv, Int.reduceToNat, Int.reduceLT, Int.reduceLE, Bool.not_true, Bool.not_false, reduceIte, Int.reduceEq, Int.reduceBEq, Int.reduceBNe, Int.reduceGT, Int.reduceGE, Int.reduceNeg, Int.reduceAdd, Int.reduceSub, Nat.reduceBEq, decide_true, decide_false, undef, beq_self_eq_true, bne_self_eq_false, Bool.and_true, Bool.true_and, Bool.and_false, Bool.false_and, Bool.or_true, Bool.true_or, Bool.or_false, Bool.false_or]
      refine finDL_pan rfl rfl ((answer_pan rfl).mono fun σ' h => ?_)
      subst h
      exact ⟨_, rfl, [], rfl, rfl, res_mk (by simp only [specUp, hok, hT]; rfl)⟩
end Go.Proofs.YtkbjodmpmmnhgaaDoor

/- Under, Down and Ask. -/
namespace Go.Proofs.YtkbjodmpmmnhgaaDoor
open Go Go.Ab

/-! ### Under -/
def underR (s : Int × Int) : Int := if s.1 > 0 then 2 else if s.2 = 0 then 0 else 1
def Fl.isR (f : Fl) (a b : Int) : Bool := f.isH a && wI b (a + 1) f.hs.length
def specUnder (f : Fl) (a b : Int) : Int × Int := if f.ok then (if f.isR a b then (match hullU f a b with | some s => (underR s, 0) | none => (0, 10)) else (0, 2)) else (0, 1)

set_option maxRecDepth 4000 in
set_option maxHeartbeats 2000000 in
theorem Under_ok (f : Fl) (a b : Int) (hl : f.hs.length < 9223372036854775808 ∧ f.ss.length < 9223372036854775808) : ACall Tryd.prog 23 [.t (.agg (fl5 f)), .t (vi a), .t (vi b)] [] (res (oneE (specUnder f a b).1 (specUnder f a b).2)) := by
  refine ACall.walkD k23 ?_
  unfold c23 fl5
  have e1 : IntKind.i64.wrap ((f.hs.length : Int) - 1) = f.hs.length - 1 := wrap_id (by omega) (by omega)
  refine awpL_chop 3 (c1 := ?a1) (c2 := ?a2) (fun s => f.ok = true ∧ f.isR a b = true ∧ ∃ (p : Nat) (x : Int × Int), hullU f a b = some x ∧ lk s.env 7 = .ptr 1 0 ∧ lk s.env 8 = .ptr p 0 ∧ s.σ[p]? = some (.cells [.t (vi x.1), .t (vi x.2)]) ∧ s.σ[1]? = some (.cells [.t (vi 0)]) ∧ p ≠ 1 ∧ s.df = [.call 44 [.ptr 1 0]] ∧ s.k = 0) ?hc ?_ ?_
  case hc => simp only [chop]; rfl
  · have h46a := within_ok a 0 (f.hs.length - 1)
    have h46b := within_ok b (a + 1) f.hs.length
    rw [show wI a 0 (f.hs.length - 1) = f.isH a from rfl] at h46a
    have panic : ∀ (e : Int) (s : St) (p : Nat) (y : E), specUnder f a b = (0, e) → s.df = [.call 44 [.ptr p 0]] → s.k = 0 → s.σ[p]? = some (.cells [y]) → lk s.env 6 = .t (vi 0) → lk s.env 7 = .ptr p 0 →
        @finDL Tryd.prog 0 ⟨[.tmp 6, .cell 7 false 1]⟩ ⟨res (oneE (specUnder f a b).1 (specUnder f a b).2)⟩ (.pan (rfs e)) s := by
      intro e s p y hsp h1 h2 h3 h6 h7
      refine finDL_pan h1 h2 ((answer_pan h3).mono fun σ' h => ?_)
      subst h
      refine ⟨.tup [.t (vi 0), .t (vi e)], ?_, [], rfl, rfl, res_mk ?_⟩
      · have hl := (List.getElem?_eq_some_iff.1 h3).1
        simp only [resV, resEs, h6, h7, load?, List.getElem?_set_self hl, rd, Bool.false_eq_true, if_false, List.getElem?_cons_zero]
      · rw [hsp]; rfl
    cases hA : f.isH a
    · rw [hA] at h46a
      have h45 := open_ok f false hl
      simp only [fl5] at h45
      cases hok : f.ok
      · have hsp : specUnder f a b = (0, 1) := by simp only [specUnder, hok]; rfl
        simp only [openO, hok] at h45
        simp only [go_sem, Nat.reduceEqDiff, Nat.reduceAdd, Nat.reduceSub, Nat.reduceMul, Nat.reduceLT, Nat.reduceLeDiff, Nat.reduceMod, Nat.reduceDiv, Int.reduceToNat, Int.reduceLT, Int.reduceLE, Bool.not_true, Bool.not_false, reduceIte, Int.reduceEq, Int.reduceBEq, Int.reduceBNe, Int.reduceGT, Int.reduceGE, Int.reduceNeg, Int.reduceAdd, Int.reduceSub, Nat.reduceBEq, decide_true, decide_false, undef, beq_self_eq_true, bne_self_eq_false, Bool.and_true, Bool.true_and, Bool.and_false, Bool.false_and, Bool.or_true, Bool.true_or, Bool.or_false, Bool.false_or, List.length_map, e1]
        repeat' (first | refine AndL.mk ?_ ?_ | refine ACallL.quiet1 h46a rfl rfl rfl ?_ | refine ACallL.fresh1 h45 rfl ?_ | simp only [go_sem, Nat.reduceEqDiff, Nat.reduceAdd, Nat.reduceSub, Nat.reduceMul, Nat.reduceLT, Nat.reduceLeDiff, Nat.reduceMod, Nat.reduceDiv, Int.reduceToNat, Int.reduceLT, Int.reduceLE, Bool.not_true, Bool.not_false, reduceIte, Int.reduceEq, Int.reduceBEq, Int.reduceBNe, Int.reduceGT, Int.reduceGE, Int.reduceNeg, Int.reduceAdd, Int.reduceSub, Nat.reduceBEq, decide_true, decide_false, undef, beq_self_eq_true, bne_self_eq_false, Bool.and_true, Bool.true_and, Bool.and_false, Bool.false_and, Bool.or_true, Bool.true_or, Bool.or_false, Bool.false_or, List.length_map, e1])
        all_goals refine panic 1 _ 1 (.t (vi 0)) hsp ?_ ?_ ?_ ?_ ?_ <;> rfl
      · have hsp : specUnder f a b = (0, 2) := by simp only [specUnder, hok, Fl.isR, hA]; rfl
        simp only [openO, hok] at h45
        simp only [go_sem, Nat.reduceEqDiff, Nat.reduceAdd, Nat.reduceSub, Nat.reduceMul, Nat.reduceLT, Nat.reduceLeDiff, Nat.reduceMod, Nat.reduceDiv, Int.reduceToNat, Int.reduceLT, Int.reduceLE, Bool.not_true, Bool.not_false, reduceIte, Int.reduceEq, Int.reduceBEq, Int.reduceBNe, Int.reduceGT, Int.reduceGE, Int.reduceNeg, Int.reduceAdd, Int.reduceSub, Nat.reduceBEq, decide_true, decide_false, undef, beq_self_eq_true, bne_self_eq_false, Bool.and_true, Bool.true_and, Bool.and_false, Bool.false_and, Bool.or_true, Bool.true_or, Bool.or_false, Bool.false_or, List.length_map, e1]
        repeat' (first | refine AndL.mk ?_ ?_ | refine ACallL.quiet1 h46a rfl rfl rfl ?_ | refine ACallL.fresh1 h45 rfl ?_ | simp only [go_sem, Nat.reduceEqDiff, Nat.reduceAdd, Nat.reduceSub, Nat.reduceMul, Nat.reduceLT, Nat.reduceLeDiff, Nat.reduceMod, Nat.reduceDiv, Int.reduceToNat, Int.reduceLT, Int.reduceLE, Bool.not_true, Bool.not_false, reduceIte, Int.reduceEq, Int.reduceBEq, Int.reduceBNe, Int.reduceGT, Int.reduceGE, Int.reduceNeg, Int.reduceAdd, Int.reduceSub, Nat.reduceBEq, decide_true, decide_false, undef, beq_self_eq_true, bne_self_eq_false, Bool.and_true, Bool.true_and, Bool.and_false, Bool.false_and, Bool.or_true, Bool.true_or, Bool.or_false, Bool.false_or, List.length_map, e1])
        all_goals refine panic 2 _ 1 (.t (vi 0)) hsp ?_ ?_ ?_ ?_ ?_ <;> rfl
    · rw [hA] at h46a
      have hw : IntKind.i64.wrap (a + 1) = a + 1 := by
        have := isH_iff.1 hA
        exact wrap_id (by omega) (by omega)
      have h45 := open_ok f (wI b (a + 1) f.hs.length) hl
      simp only [fl5] at h45
      cases hok : f.ok
      · have hsp : specUnder f a b = (0, 1) := by simp only [specUnder, hok]; rfl
        simp only [openO, hok] at h45
        simp only [go_sem, Nat.reduceEqDiff, Nat.reduceAdd, Nat.reduceSub, Nat.reduceMul, Nat.reduceLT, Nat.reduceLeDiff, Nat.reduceMod, Nat.reduceDiv, Int.reduceToNat, Int.reduceLT, Int.reduceLE, Bool.not_true, Bool.not_false, reduceIte, Int.reduceEq, Int.reduceBEq, Int.reduceBNe, Int.reduceGT, Int.reduceGE, Int.reduceNeg, Int.reduceAdd, Int.reduceSub, Nat.reduceBEq, decide_true, decide_false, undef, beq_self_eq_true, bne_self_eq_false, Bool.and_true, Bool.true_and, Bool.and_false, Bool.false_and, Bool.or_true, Bool.true_or, Bool.or_false, Bool.false_or, List.length_map, e1]
        repeat' (first | refine AndL.mk ?_ ?_ | refine ACallL.quiet1 h46a rfl rfl rfl ?_ | refine ACallL.quiet1 h46b rfl rfl rfl ?_ | refine ACallL.fresh1 h45 rfl ?_ | simp only [go_sem, Nat.reduceEqDiff, Nat.reduceAdd, Nat.reduceSub, Nat.reduceMul, Nat.reduceLT, Nat.reduceLeDiff, Nat.reduceMod, Nat.reduceDiv, Int.reduceToNat, Int.reduceLT, Int.reduceLE, Bool.not_true, Bool.not_false, reduceIte, Int.reduceEq, Int.reduceBEq, Int.reduceBNe, Int.reduceGT, Int.reduceGE, Int.reduceNeg, Int.reduceAdd, Int.reduceSub, Nat.reduceBEq, decide_true, decide_false, undef, beq_self_eq_true, bne_self_eq_false, Bool.and_true, Bool.true_and, Bool.and_false, Bool.false_and, Bool.or_true, Bool.true_or, Bool.or_false, Bool.false_or, List.length_map, e1, hw])
        all_goals refine panic 1 _ 1 (.t (vi 0)) hsp ?_ ?_ ?_ ?_ ?_ <;> rfl
      · have hf := (f.ok_iff).1 hok
        cases hB : wI b (a + 1) f.hs.length
        · have hsp : specUnder f a b = (0, 2) := by simp only [specUnder, hok, Fl.isR, hA, hB]; rfl
          rw [hB] at h46b h45
          simp only [openO, hok] at h45
          simp only [go_sem, Nat.reduceEqDiff, Nat.reduceAdd, Nat.reduceSub, Nat.reduceMul, Nat.reduceLT, Nat.reduceLeDiff, Nat.reduceMod, Nat.reduceDiv, Int.reduceToNat, Int.reduceLT, Int.reduceLE, Bool.not_true, Bool.not_false, reduceIte, Int.reduceEq, Int.reduceBEq, Int.reduceBNe, Int.reduceGT, Int.reduceGE, Int.reduceNeg, Int.reduceAdd, Int.reduceSub, Nat.reduceBEq, decide_true, decide_false, undef, beq_self_eq_true, bne_self_eq_false, Bool.and_true, Bool.true_and, Bool.and_false, Bool.false_and, Bool.or_true, Bool.true_or, Bool.or_false, Bool.false_or, List.length_map, e1]
          repeat' (first | refine AndL.mk ?_ ?_ | refine ACallL.quiet1 h46a rfl rfl rfl ?_ | refine ACallL.quiet1 h46b rfl rfl rfl ?_ | refine ACallL.fresh1 h45 rfl ?_ | simp only [go_sem, Nat.reduceEqDiff, Nat.reduceAdd, Nat.reduceSub, Nat.reduceMul, Nat.reduceLT, Nat.reduceLeDiff, Nat.reduceMod, Nat.reduceDiv, Int.reduceToNat, Int.reduceLT, Int.reduceLE, Bool.not_true, Bool.not_false, reduceIte, Int.reduceEq, Int.reduceBEq, Int.reduceBNe, Int.reduceGT, Int.reduceGE, Int.reduceNeg, Int.reduceAdd, Int.reduceSub, Nat.reduceBEq, decide_true, decide_false, undef, beq_self_eq_true, bne_self_eq_false, Bool.and_true, Bool.true_and, Bool.and_false, Bool.false_and, Bool.or_true, Bool.true_or, Bool.or_false, Bool.false_or, List.length_map, e1, hw])
          all_goals refine panic 2 _ 1 (.t (vi 0)) hsp ?_ ?_ ?_ ?_ ?_ <;> rfl
        · rw [hB] at h46b h45
          simp only [openO, hok] at h45
          have h56 := span_ok f hf (.flown a b)
          unfold spanO at h56
          rw [spO_eq f hf] at h56
          cases hs : hullU f a b with
          | none =>
            have hsp : specUnder f a b = (0, 10) := by simp only [specUnder, hok, Fl.isR, hA, hB, hs]; rfl
            unfold hullU at hs
            rw [hs] at h56
            simp only [go_sem, Nat.reduceEqDiff, Nat.reduceAdd, Nat.reduceSub, Nat.reduceMul, Nat.reduceLT, Nat.reduceLeDiff, Nat.reduceMod, Nat.reduceDiv, Int.reduceToNat, Int.reduceLT, Int.reduceLE, Bool.not_true, Bool.not_false, reduceIte, Int.reduceEq, Int.reduceBEq, Int.reduceBNe, Int.reduceGT, Int.reduceGE, Int.reduceNeg, Int.reduceAdd, Int.reduceSub, Nat.reduceBEq, decide_true, decide_false, undef, beq_self_eq_true, bne_self_eq_false, Bool.and_true, Bool.true_and, Bool.and_false, Bool.false_and, Bool.or_true, Bool.true_or, Bool.or_false, Bool.false_or, List.length_map, e1]
            repeat' (first | refine AndL.mk ?_ ?_ | refine ACallL.quiet1 h46a rfl rfl rfl ?_ | refine ACallL.quiet1 h46b rfl rfl rfl ?_ | refine ACallL.fresh1 h45 rfl ?_ | refine ACallL.fresh1 h56 rfl ?_ | simp only [go_sem, Nat.reduceEqDiff, Nat.reduceAdd, Nat.reduceSub, Nat.reduceMul, Nat.reduceLT, Nat.reduceLeDiff, Nat.reduceMod, Nat.reduceDiv, Int.reduceToNat, Int.reduceLT, Int.reduceLE, Bool.not_true, Bool.not_false, reduceIte, Int.reduceEq, Int.reduceBEq, Int.reduceBNe, Int.reduceGT, Int.reduceGE, Int.reduceNeg, Int.reduceAdd, Int.reduceSub, Nat.reduceBEq, decide_true, decide_false, undef, beq_self_eq_true, bne_self_eq_false, Bool.and_true, Bool.true_and, Bool.and_false, Bool.false_and, Bool.or_true, Bool.true_or, Bool.or_false, Bool.false_or, List.length_map, e1, hw])
            all_goals refine panic 10 _ 1 (.t (vi 0)) hsp ?_ ?_ ?_ ?_ ?_ <;> rfl
          | some x =>
            obtain ⟨x1, x2⟩ := x
            unfold hullU at hs
            rw [hs] at h56
            simp only [tSp] at h56
            have hR : f.isR a b = true := by simp only [Fl.isR, hA, hB]; rfl
            simp only [go_sem, Nat.reduceEqDiff, Nat.reduceAdd, Nat.reduceSub, Nat.reduceMul, Nat.reduceLT, Nat.reduceLeDiff, Nat.reduceMod, Nat.reduceDiv, Int.reduceToNat, Int.reduceLT, Int.reduceLE, Bool.not_true, Bool.not_false, reduceIte, Int.reduceEq, Int.reduceBEq, Int.reduceBNe, Int.reduceGT, Int.reduceGE, Int.reduceNeg, Int.reduceAdd, Int.reduceSub, Nat.reduceBEq, decide_true, decide_false, undef, beq_self_eq_true, bne_self_eq_false, Bool.and_true, Bool.true_and, Bool.and_false, Bool.false_and, Bool.or_true, Bool.true_or, Bool.or_false, Bool.false_or, List.length_map, e1]
            repeat' (first | refine AndL.mk ?_ ?_ | refine ACallL.quiet1 h46a rfl rfl rfl ?_ | refine ACallL.quiet1 h46b rfl rfl rfl ?_ | refine ACallL.fresh1 h45 rfl ?_ | refine ACallL.fresh1 h56 rfl ?_ | simp only [go_sem, Nat.reduceEqDiff, Nat.reduceAdd, Nat.reduceSub, Nat.reduceMul, Nat.reduceLT, Nat.reduceLeDiff, Nat.reduceMod, Nat.reduceDiv, Int.reduceToNat, Int.reduceLT, Int.reduceLE, Bool.not_true, Bool.not_false, reduceIte, Int.reduceEq, Int.reduceBEq, Int.reduceBNe, Int.reduceGT, Int.reduceGE, Int.reduceNeg, Int.reduceAdd, Int.reduceSub, Nat.reduceBEq, decide_true, decide_false, undef, beq_self_eq_true, bne_self_eq_false, Bool.and_true, Bool.true_and, Bool.and_false, Bool.false_and, Bool.or_true, Bool.true_or, Bool.or_false, Bool.false_or, List.length_map, e1, hw])
            all_goals exact ⟨hR, 2, (x1, x2), rfl, rfl, rfl, by decide⟩
  rintro ⟨env, σ, df, k⟩ ⟨hok, hR, p, x, hx, h7, h8, hp, h1, hpn, hdf, hk⟩
  obtain ⟨x1, x2⟩ := x
  simp only at h7 h8 hp h1 hdf hk
  subst hdf hk
  have hpl := (List.getElem?_eq_some_iff.1 hp).1
  have h1l := (List.getElem?_eq_some_iff.1 h1).1
  have fin : ∀ (env : List (Nat × E)) (r : Int), lk env 6 = .t (vi r) → lk env 7 = .ptr 1 0 → specUnder f a b = (r, 0) →
      @finDL Tryd.prog 0 ⟨[.tmp 6, .cell 7 false 1]⟩ ⟨res (oneE (specUnder f a b).1 (specUnder f a b).2)⟩ .ret { env := env, σ := σ.set 1 (.cells [.t (vi 0)]), df := [.call 44 [.ptr 1 0]], k := 0 } := by
    intro env r h6 h7 hsp
    refine finDL_ret rfl rfl (answer_none.mono fun σ' h => ?_)
    subst h
    refine ⟨.tup [.t (vi r), .t (vi 0)], ?_, [], rfl, rfl, res_mk ?_⟩
    · simp only [resV, resEs, h6, h7, load?, List.getElem?_set_self h1l, rd, Bool.false_eq_true, if_false, List.getElem?_cons_zero]
    · rw [hsp]; rfl
  have hsp : specUnder f a b = (underR (x1, x2), 0) := by simp only [specUnder, hok, hR, hx]; rfl
  simp only [go_sem, Nat.reduceEqDiff, Nat.reduceAdd, Nat.reduceSub, Nat.reduceMul, Nat.reduceLT, Nat.reduceLeDiff, Nat.reduceMod, Nat.reduceDiv, Int.reduceToNat, Int.reduceLT, Int.reduceLE, Bool.not_true, Bool.not_false, reduceIte, Int.reduceEq, Int.reduceBEq, Int.reduceBNe, Int.reduceGT, Int.reduceGE, Int.reduceNeg, Int.reduceAdd, Int.reduceSub, Nat.reduceBEq, decide_true, decide_false, undef, beq_self_eq_true, bne_self_eq_false, Bool.and_true, Bool.true_and, Bool.and_false, Bool.false_and, Bool.or_true, Bool.true_or, Bool.or_false, Bool.false_or, h8, hp]
  refine BrL.mk (fun h2 => ?_) (fun h2 => ?_)
  · simp only [go_sem, Nat.reduceEqDiff, Nat.reduceAdd, Nat.reduceSub, Nat.reduceMul, Nat.reduceLT, Nat.reduceLeDiff, Nat.reduceMod, Nat.reduceDiv, Int.reduceToNat, Int.reduceLT, Int.reduceLE, Bool.not_true, Bool.not_false, reduceIte, Int.reduceEq, Int.reduceBEq, Int.reduceBNe, Int.reduceGT, Int.reduceGE, Int.reduceNeg, Int.reduceAdd, Int.reduceSub, Nat.reduceBEq, decide_true, decide_false, undef, beq_self_eq_true, bne_self_eq_false, Bool.and_true, Bool.true_and, Bool.and_false, Bool.false_and, Bool.or_true, Bool.true_or, Bool.or_false, Bool.false_or, h2, h7, h1]
    exact fin _ 2 rfl (by simp only [lk, Nat.reduceEqDiff, reduceIte, h7]) (by rw [hsp]; unfold underR; rw [if_pos (by simpa using h2)])
  · simp only [go_sem, Nat.reduceEqDiff, Nat.reduceAdd, Nat.reduceSub, Nat.reduceMul, Nat.reduceLT, Nat.reduceLeDiff, Nat.reduceMod, Nat.reduceDiv, Int.reduceToNat, Int.reduceLT, Int.reduceLE, Bool.not_true, Bool.not_false, reduceIte, Int.reduceEq, Int.reduceBEq, Int.reduceBNe, Int.reduceGT, Int.reduceGE, Int.reduceNeg, Int.reduceAdd, Int.reduceSub, Nat.reduceBEq, decide_true, decide_false, undef, beq_self_eq_true, bne_self_eq_false, Bool.and_true, Bool.true_and, Bool.and_false, Bool.false_and, Bool.or_true, Bool.true_or, Bool.or_false, Bool.false_or, h2, h8, hp]
    refine BrL.mk (fun h3 => ?_) (fun h3 => ?_)
    · simp only [go_sem, Nat.reduceEqDiff, Nat.reduceAdd, Nat.reduceSub, Nat.reduceMul, Nat.reduceLT, Nat.reduceLeDiff, Nat.reduceMod, Nat.reduceDiv, Int.reduceToNat, Int.reduceLT, Int.reduceLE, Bool.not_true, Bool.not_false, reduceIte, Int.reduceEq, Int.reduceBEq, Int.reduceBNe, Int.reduceGT, Int.reduceGE, Int.reduceNeg, Int.reduceAdd, Int.reduceSub, Nat.reduceBEq, decide_true, decide_false, undef, beq_self_eq_true, bne_self_eq_false, Bool.and_true, Bool.true_and, Bool.and_false, Bool.false_and, Bool.or_true, Bool.true_or, Bool.or_false, Bool.false_or, h3, h7, h1]
      exact fin _ 0 rfl (by simp only [lk, Nat.reduceEqDiff, reduceIte, h7]) (by rw [hsp]; unfold underR; rw [if_neg (by simpa using h2), if_pos (by simpa using h3)])
    · simp only [go_sem, Nat.reduceEqDiff, Nat.reduceAdd, Nat.reduceSub, Nat.reduceMul, Nat.reduceLT, Nat.reduceLeDiff, Nat.reduceMod, Nat.reduceDiv, Int.reduceToNat, Int.reduceLT, Int.reduceLE, Bool.not_true, Bool.not_false, reduceIte, Int.reduceEq, Int.reduceBEq, Int.reduceBNe, Int.reduceGT, Int.reduceGE, Int.reduceNeg, Int.reduceAdd, Int.reduceSub, Nat.reduceBEq, decide_true, decide_false, undef, beq_self_eq_true, bne_self_eq_false, Bool.and_true, Bool.true_and, Bool.and_false, Bool.false_and, Bool.or_true, Bool.true_or, Bool.or_false, Bool.false_or, h3, h7, h1]
      exact fin _ 1 rfl (by simp only [lk, Nat.reduceEqDiff, reduceIte, h7]) (by rw [hsp]; unfold underR; rw [if_neg (by simpa using h2), if_neg (by simpa using h3)])
end Go.Proofs.YtkbjodmpmmnhgaaDoor

/- Down and Ask. -/
namespace Go.Proofs.YtkbjodmpmmnhgaaDoor
open Go Go.Ab

/-! ### Down -/
def downF (f : Fl) (a : Int) : Option Nat := (List.range f.hs.length).find? fun h => decide (a ≤ (h : Int)) && !perh f h
def specDown (f : Fl) (a : Int) : Int × Int := if f.ok then (if f.isH a then (if noT f then (0, 10) else (match downF f a with | some h => ((h : Nat), 0) | none => (0, 4))) else (0, 2)) else (0, 1)

theorem lowF_spec : ∀ (K m : Nat), lowF K m ≤ K ∧ (∀ i < lowF K m, m.testBit i = true) ∧ (lowF K m < K → m.testBit (lowF K m) = false)
  | 0, m => by simp [lowF]
  | K + 1, m => by
    obtain ⟨h1, h2, h3⟩ := lowF_spec K (m / 2)
    simp only [lowF]
    split
    · rename_i h
      refine ⟨by omega, fun i hi => ?_, fun hi => ?_⟩
      · cases i with
        | zero => simp [Nat.testBit_zero, h]
        | succ i => rw [Nat.testBit_succ]; exact h2 i (by omega)
      · rw [Nat.add_comm, Nat.testBit_succ]; exact h3 (by omega)
    · rename_i h
      refine ⟨by omega, fun i hi => by omega, fun _ => ?_⟩
      simp [Nat.testBit_zero]
      omega

theorem xor_all : ∀ m : Nat, m < 512 → bits .xor .u64 18446744073709551615 (m : Int) = 18446744073709551615 - (m : Int) := dec512 (by decide +kernel)

set_option maxRecDepth 4000 in
theorem Down_ok (f : Fl) (a : Int) (hl : f.hs.length < 9223372036854775808 ∧ f.ss.length < 9223372036854775808) : ACall Tryd.prog 25 [.t (.agg (fl5 f)), .t (vi a)] [] (res (oneE (specDown f a).1 (specDown f a).2)) := by
  refine ACall.walkD k25 ?_
  unfold c25 fl5
  have e1 : IntKind.i64.wrap ((f.hs.length : Int) - 1) = f.hs.length - 1 := wrap_id (by omega) (by omega)
  have h45 := open_ok f (f.isH a) hl
  simp only [fl5] at h45
  simp only [go_sem, Nat.reduceEqDiff, Nat.reduceAdd, Nat.reduceSub, Nat.reduceMul, Nat.reduceLT, Nat.reduceLeDiff, Nat.reduceMod, Nat.reduceDiv, Int.reduceToNat, Int.reduceLT, Int.reduceLE, Bool.not_true, Bool.not_false, reduceIte, Int.reduceEq, Int.reduceBEq, Int.reduceBNe, Int.reduceGT, Int.reduceGE, Int.reduceNeg, Int.reduceAdd, Int.reduceSub, Nat.reduceBEq, decide_true, decide_false, undef, beq_self_eq_true, bne_self_eq_false, Bool.and_true, Bool.true_and, Bool.and_false, Bool.false_and, Bool.or_true, Bool.true_or, Bool.or_false, Bool.false_or, List.length_map, e1]
  refine ACallL.quiet1 (within_ok _ _ _) rfl rfl rfl ?_
  simp only [go_sem, Nat.reduceEqDiff, Nat.reduceAdd, Nat.reduceSub, Nat.reduceMul, Nat.reduceLT, Nat.reduceLeDiff, Nat.reduceMod, Nat.reduceDiv, Int.reduceToNat, Int.reduceLT, Int.reduceLE, Bool.not_true, Bool.not_false, reduceIte, Int.reduceEq, Int.reduceBEq, Int.reduceBNe, Int.reduceGT, Int.reduceGE, Int.reduceNeg, Int.reduceAdd, Int.reduceSub, Nat.reduceBEq, decide_true, decide_false, undef, beq_self_eq_true, bne_self_eq_false, Bool.and_true, Bool.true_and, Bool.and_false, Bool.false_and, Bool.or_true, Bool.true_or, Bool.or_false, Bool.false_or, List.length_map]
  refine ACallL.fresh1 h45 rfl ?_
  cases hok : f.ok
  · simp only [openO, hok, go_sem, Nat.reduceEqDiff, Nat.reduceAdd, Nat.reduceSub, Nat.reduceMul, Nat.reduceLT, Nat.reduceLeDiff, Nat.reduceMod, Nat.reduceDiv, Int.reduceToNat, Int.reduceLT, Int.reduceLE, Bool.not_true, Bool.not_false, reduceIte, Int.reduceEq, Int.reduceBEq, Int.reduceBNe, Int.reduceGT, Int.reduceGE, Int.reduceNeg, Int.reduceAdd, Int.reduceSub, Nat.reduceBEq, decide_true, decide_false, undef, beq_self_eq_true, bne_self_eq_false, Bool.and_true, Bool.true_and, Bool.and_false, Bool.false_and, Bool.or_true, Bool.true_or, Bool.or_false, Bool.false_or]
    refine finDL_pan rfl rfl ((answer_pan rfl).mono fun σ' h => ?_)
    subst h
    exact ⟨_, rfl, [], rfl, rfl, res_mk (by simp only [specDown, hok]; rfl)⟩
  · cases hB : f.isH a
    · simp only [openO, hok, go_sem, Nat.reduceEqDiff, Nat.reduceAdd, Nat.reduceSub, Nat.reduceMul, Nat.reduceLT, Nat.reduceLeDiff, Nat.reduceMod, Nat.reduceDiv, Int.reduceToNat, Int.reduceLT, Int.reduceLE, Bool.not_true, Bool.not_false, reduceIte, Int.reduceEq, Int.reduceBEq, Int.reduceBNe, Int.reduceGT, Int.reduceGE, Int.reduceNeg, Int.reduceAdd, Int.reduceSub, Nat.reduceBEq, decide_true, decide_false, undef, beq_self_eq_true, bne_self_eq_false, Bool.and_true, Bool.true_and, Bool.and_false, Bool.false_and, Bool.or_true, Bool.true_or, Bool.or_false, Bool.false_or]
      refine finDL_pan rfl rfl ((answer_pan rfl).mono fun σ' h => ?_)
      subst h
      exact ⟨_, rfl, [], rfl, rfl, res_mk (by simp only [specDown, hok, hB]; rfl)⟩
    · obtain ⟨h0, h1⟩ := isH_iff.1 hB
      have hf := (f.ok_iff).1 hok
      have hn := hf.nh
      obtain ⟨n, rfl⟩ : ∃ n : Nat, a = n := ⟨a.toNat, by omega⟩
      have h52 := sets_ok f hf
      have hpos : decide (0 < f.hs.length) = true := by simp; omega
      unfold setsO at h52
      simp only [openO, hok, go_sem, Nat.reduceEqDiff, Nat.reduceAdd, Nat.reduceSub, Nat.reduceMul, Nat.reduceLT, Nat.reduceLeDiff, Nat.reduceMod, Nat.reduceDiv, Int.reduceToNat, Int.reduceLT, Int.reduceLE, Bool.not_true, Bool.not_false, reduceIte, Int.reduceEq, Int.reduceBEq, Int.reduceBNe, Int.reduceGT, Int.reduceGE, Int.reduceNeg, Int.reduceAdd, Int.reduceSub, Nat.reduceBEq, decide_true, decide_false, undef, beq_self_eq_true, bne_self_eq_false, Bool.and_true, Bool.true_and, Bool.and_false, Bool.false_and, Bool.or_true, Bool.true_or, Bool.or_false, Bool.false_or, List.length_map]
      cases hT : noT f
      · rw [hT] at h52
        simp only [Bool.false_and, Bool.false_eq_true, if_false] at h52
        have hm := maskOf_lt (perh f) f.hs.length
        have hm2 : 2 ^ f.hs.length ≤ 512 := Nat.pow_le_pow_right (n := 2) (by decide) hn
        have hbit := maskOf_bit (perh f) f.hs.length
        generalize maskOf (perh f) f.hs.length = m at *
        have hw : IntKind.u64.wrap (m : Int) = m := by
          have : m < 512 := by omega
          have key : ∀ m : Nat, m < 512 → IntKind.u64.wrap (m : Int) = m := dec512 (by decide +kernel)
          exact key m this
        have hsh : ((m : Int)).fdiv (2 ^ (min n 64)) = ((m >>> n : Nat) : Int) := shr_nat (by omega)
        have hms : m >>> n < 512 := Nat.lt_of_le_of_lt (Nat.shiftRight_le m n) (by omega)
        have hx := xor_all _ hms
        have h60 := tz64_ok _ hms
        obtain ⟨l1, l2, l3⟩ := lowF_spec 64 (m >>> n)
        simp only [Nat.testBit_shiftRight] at l2 l3
        have hr : n + lowF 64 (m >>> n) ≤ f.hs.length := by
          by_cases hc : n + lowF 64 (m >>> n) ≤ f.hs.length
          · exact hc
          · have := l2 (f.hs.length - n) (by omega)
            rw [show n + (f.hs.length - n) = f.hs.length by omega, hbit] at this
            simp at this
        have hw2 : IntKind.i64.wrap ((n : Int) + (lowF 64 (m >>> n) : Nat)) = ((n + lowF 64 (m >>> n) : Nat) : Int) := by rw [wrap_id (by omega) (by omega)]; omega
        generalize hk : lowF 64 (m >>> n) = r at *
        generalize m >>> n = m' at *
        refine ACallL.fresh1 h52 rfl ?_
        simp only [go_sem, Nat.reduceEqDiff, Nat.reduceAdd, Nat.reduceSub, Nat.reduceMul, Nat.reduceLT, Nat.reduceLeDiff, Nat.reduceMod, Nat.reduceDiv, Int.reduceToNat, Int.reduceLT, Int.reduceLE, Bool.not_true, Bool.not_false, reduceIte, Int.reduceEq, Int.reduceBEq, Int.reduceBNe, Int.reduceGT, Int.reduceGE, Int.reduceNeg, Int.reduceAdd, Int.reduceSub, Nat.reduceBEq, decide_true, decide_false, undef, beq_self_eq_true, bne_self_eq_false, Bool.and_true, Bool.true_and, Bool.and_false, Bool.false_and, Bool.or_true, Bool.true_or, Bool.or_false, Bool.false_or, hw, nat_neg, hsh]
        have hx' : bits .xor .u64 (if IntKind.u64.signed = true then -1 else IntKind.u64.max) (m' : Int) = 18446744073709551615 - (m' : Int) := hx
        rw [hx']
        clear hx hx'
        generalize (18446744073709551615 : Int) - (m' : Int) = y at *
        refine ACallL.quiet1 h60 rfl rfl rfl ?_
        simp only [go_sem, Nat.reduceEqDiff, Nat.reduceAdd, Nat.reduceSub, Nat.reduceMul, Nat.reduceLT, Nat.reduceLeDiff, Nat.reduceMod, Nat.reduceDiv, Int.reduceToNat, Int.reduceLT, Int.reduceLE, Bool.not_true, Bool.not_false, reduceIte, Int.reduceEq, Int.reduceBEq, Int.reduceBNe, Int.reduceGT, Int.reduceGE, Int.reduceNeg, Int.reduceAdd, Int.reduceSub, Nat.reduceBEq, decide_true, decide_false, undef, beq_self_eq_true, bne_self_eq_false, Bool.and_true, Bool.true_and, Bool.and_false, Bool.false_and, Bool.or_true, Bool.true_or, Bool.or_false, Bool.false_or, hw2, List.length_map]
        refine ACallL.quiet1 (ask_ok _ 4) rfl rfl (by simp only [askO]; split <;> rfl) ?_
        cases hd : decide (((n + r : Nat) : Int) < f.hs.length)
        · have hd' : ¬ n + r < f.hs.length := by simp at hd; omega
          have hD : downF f n = none := by
            unfold downF
            rw [List.find?_range_eq_none]
            intro i hi
            by_cases c : n ≤ i
            · have := l2 (i - n) (by omega)
              rw [show n + (i - n) = i by omega, hbit] at this
              simp only [Bool.and_eq_true] at this
              rw [this.2]; simp
            · have : decide ((n : Int) ≤ (i : Int)) = false := by simp; omega
              rw [this]; rfl
          simp only [askO, go_sem, Nat.reduceEqDiff, Nat.reduceAdd, Nat.reduceSub, Nat.reduceMul, Nat.reduceLT, Nat.reduceLeDiff, Nat.reduceMod, Nat.reduceDiv, Int.reduceToNat, Int.reduceLT, Int.reduceLE, Bool.not_true, Bool.not_false, reduceIte, Int.reduceEq, Int.reduceBEq, Int.reduceBNe, Int.reduceGT, Int.reduceGE, Int.reduceNeg, Int.reduceAdd, Int.reduceSub, Nat.reduceBEq, decide_true, decide_false, undef, beq_self_eq_true, bne_self_eq_false, Bool.and_true, Bool.true_and, Bool.and_false, Bool.false_and, Bool.or_true, Bool.true_or, Bool.or_false, Bool.false_or]
          refine finDL_pan rfl rfl ((answer_pan rfl).mono fun σ' h => ?_)
          subst h
          exact ⟨_, rfl, [], rfl, rfl, res_mk (by simp only [specDown, hok, hB, hT, hD]; rfl)⟩
        · have hd' : n + r < f.hs.length := by simp at hd; omega
          have hD : downF f n = some (n + r) := by
            unfold downF
            rw [List.find?_range_eq_some]
            refine ⟨?_, List.mem_range.2 hd', fun i hi => ?_⟩
            · have := l3 (by omega)
              rw [hbit] at this
              have h4 : decide (n + r < f.hs.length) = true := by simpa using hd'
              rw [h4, Bool.true_and] at this
              rw [this]
              simp
              omega
            · by_cases c : n ≤ i
              · have := l2 (i - n) (by omega)
                rw [show n + (i - n) = i by omega, hbit] at this
                simp only [Bool.and_eq_true] at this
                rw [this.2]; simp
              · have : decide ((n : Int) ≤ (i : Int)) = false := by simp; omega
                rw [this]; rfl
          simp only [askO, go_sem, Nat.reduceEqDiff, Nat.reduceAdd, Nat.reduceSub, Nat.reduceMul, Nat.reduceLT, Nat.reduceLeDiff, Nat.reduceMod, Nat.reduceDiv, Int.reduceToNat, Int.reduceLT, Int.reduceLE, Bool.not_true, Bool.not_false, reduceIte, Int.reduceEq, Int.reduceBEq, Int.reduceBNe, Int.reduceGT, Int.reduceGE, Int.reduceNeg, Int.reduceAdd, Int.reduceSub, Nat.reduceBEq, decide_true, decide_false, undef, beq_self_eq_true, bne_self_eq_false, Bool.and_true, Bool.true_and, Bool.and_false, Bool.false_and, Bool.or_true, Bool.true_or, Bool.or_false, Bool.false_or]
          refine finDL_ret rfl rfl (answer_none.mono fun σ' h => ?_)
          subst h
          exact ⟨_, rfl, [], rfl, rfl, res_mk (by simp only [specDown, hok, hB, hT, hD]; rfl)⟩
      · rw [hT, hpos] at h52
        simp only [Bool.true_and, if_true] at h52
        refine ACallL.fresh1 h52 rfl ?_
        simp only [go_sem, Nat.reduceEqDiff, Nat.reduceAdd, Nat.reduceSub, Nat.reduceMul, Nat.reduceLT, Nat.reduceLeDiff, Nat.reduceMod, Nat.reduceDiv, Int.reduceToNat, Int.reduceLT, Int.reduceLE, Bool.not_true, Bool.not_false, reduceIte, Int.reduceEq, Int.reduceBEq, Int.reduceBNe, Int.reduceGT, Int.reduceGE, Int.reduceNeg, Int.reduceAdd, Int.reduceSub, Nat.reduceBEq, decide_true, decide_false, undef, beq_self_eq_true, bne_self_eq_false, Bool.and_true, Bool.true_and, Bool.and_false, Bool.false_and, Bool.or_true, Bool.true_or, Bool.or_false, Bool.false_or]
        refine finDL_pan rfl rfl ((answer_pan rfl).mono fun σ' h => ?_)
        subst h
        exact ⟨_, rfl, [], rfl, rfl, res_mk (by simp only [specDown, hok, hB, hT]; rfl)⟩

/-! ### Ask -/
theorem truths_le (f : Fl) (hf : f.OK) : (truths f).length ≤ 19683 := by
  have h := allN_eq f hf
  unfold allN wN at h
  cases hv : waysV f (.only (-1) 0) f.hs.length 0 pole0 with
  | none => rw [hv] at h; simp at h; omega
  | some v =>
    rw [hv, Option.getD_some] at h
    have h1 := waysV_le f (.only (-1) 0) f.hs.length 0 pole0 v hv
    have h2 := pow3_le hf.nh
    omega
/-- In how many truths an hour has a kind, of the one for which it is most. -/
def mostK (f : Fl) (h : Nat) : Nat := max (max (kindN f h 0) (kindN f h 1)) (kindN f h 2)
/-- The hour to ask of, of the first ones, and how many truths are left. -/
def askF (f : Fl) : Nat → Nat × Nat
  | 0 => (0, (truths f).length + 1)
  | k + 1 => if mostK f k < (askF f k).2 then (k, mostK f k) else askF f k
def specAsk (f : Fl) : Int × Int × Int := if f.ok then (if noT f then (0, 0, 10) else (if 1 < (truths f).length then ((askF f f.hs.length).1, (askF f f.hs.length).2, 0) else (0, 0, 11))) else (0, 0, 1)

set_option maxRecDepth 4000 in
theorem Ask_ok (f : Fl) (hl : f.hs.length < 9223372036854775808 ∧ f.ss.length < 9223372036854775808) : ACall Tryd.prog 27 [.t (.agg (fl5 f))] [] (res (twoE (specAsk f).1 (specAsk f).2.1 (specAsk f).2.2)) := by
  refine ACall.walkD k27 ?_
  have h45 := open_ok f true hl
  unfold c27 fl5
  simp only [fl5] at h45
  simp only [go_sem, Nat.reduceEqDiff, Nat.reduceAdd, Nat.reduceSub, Nat.reduceMul, Nat.reduceLT, Nat.reduceLeDiff, Nat.reduceMod, Nat.reduceDiv, Int.reduceToNat, Int.reduceLT, Int.reduceLE, Bool.not_true, Bool.not_false, reduceIte, Int.reduceEq, Int.reduceBEq, Int.reduceBNe, Int.reduceGT, Int.reduceGE, Int.reduceNeg, Int.reduceAdd, Int.reduceSub, Nat.reduceBEq, decide_true, decide_false, undef, beq_self_eq_true, bne_self_eq_false, Bool.and_true, Bool.true_and, Bool.and_false, Bool.false_and, Bool.or_true, Bool.true_or, Bool.or_false, Bool.false_or, List.length_map]
  refine ACallL.fresh1 h45 rfl ?_
  cases hok : f.ok
  · simp only [openO, hok, go_sem, Nat.reduceEqDiff, Nat.reduceAdd, Nat.reduceSub, Nat.reduceMul, Nat.reduceLT, Nat.reduceLeDiff, Nat.reduceMod, Nat.reduceDiv, Int.reduceToNat, Int.reduceLT, Int.reduceLE, Bool.not_true, Bool.not_false, reduceIte, Int.reduceEq, Int.reduceBEq, Int.reduceBNe, Int.reduceGT, Int.reduceGE, Int.reduceNeg, Int.reduceAdd, Int.reduceSub, Nat.reduceBEq, decide_true, decide_false, undef, beq_self_eq_true, bne_self_eq_false, Bool.and_true, Bool.true_and, Bool.and_false, Bool.false_and, Bool.or_true, Bool.true_or, Bool.or_false, Bool.false_or]
    refine finDL_pan rfl rfl ((answer_pan rfl).mono fun σ' h => ?_)
    subst h
    exact ⟨_, rfl, [], rfl, rfl, res_mk (by simp only [specAsk, hok]; rfl)⟩
  · have hf := (f.ok_iff).1 hok
    have hn := hf.nh
    have h51 := all_ok f hf
    rw [allN_eq f hf] at h51
    simp only [openO, hok, go_sem, Nat.reduceEqDiff, Nat.reduceAdd, Nat.reduceSub, Nat.reduceMul, Nat.reduceLT, Nat.reduceLeDiff, Nat.reduceMod, Nat.reduceDiv, Int.reduceToNat, Int.reduceLT, Int.reduceLE, Bool.not_true, Bool.not_false, reduceIte, Int.reduceEq, Int.reduceBEq, Int.reduceBNe, Int.reduceGT, Int.reduceGE, Int.reduceNeg, Int.reduceAdd, Int.reduceSub, Nat.reduceBEq, decide_true, decide_false, undef, beq_self_eq_true, bne_self_eq_false, Bool.and_true, Bool.true_and, Bool.and_false, Bool.false_and, Bool.or_true, Bool.true_or, Bool.or_false, Bool.false_or]
    refine ACallL.fresh1 h51 rfl ?_
    simp only [go_sem, Nat.reduceEqDiff, Nat.reduceAdd, Nat.reduceSub, Nat.reduceMul, Nat.reduceLT, Nat.reduceLeDiff, Nat.reduceMod, Nat.reduceDiv, Int.reduceToNat, Int.reduceLT, Int.reduceLE, Bool.not_true, Bool.not_false, reduceIte, Int.reduceEq, Int.reduceBEq, Int.reduceBNe, Int.reduceGT, Int.reduceGE, Int.reduceNeg, Int.reduceAdd, Int.reduceSub, Nat.reduceBEq, decide_true, decide_false, undef, beq_self_eq_true, bne_self_eq_false, Bool.and_true, Bool.true_and, Bool.and_false, Bool.false_and, Bool.or_true, Bool.true_or, Bool.or_false, Bool.false_or, noT_len]
    refine ACallL.quiet1 (ask_ok _ 10) rfl rfl (by simp only [askO]; split <;> rfl) ?_
    cases hT : noT f
    · have hle := truths_le f hf
      have hw0 : IntKind.i64.wrap (((truths f).length : Int) + 1) = (((truths f).length + 1 : Nat) : Int) := by rw [wrap_id (by omega) (by omega)]; omega
      simp only [askO, go_sem, Nat.reduceEqDiff, Nat.reduceAdd, Nat.reduceSub, Nat.reduceMul, Nat.reduceLT, Nat.reduceLeDiff, Nat.reduceMod, Nat.reduceDiv, Int.reduceToNat, Int.reduceLT, Int.reduceLE, Bool.not_true, Bool.not_false, reduceIte, Int.reduceEq, Int.reduceBEq, Int.reduceBNe, Int.reduceGT, Int.reduceGE, Int.reduceNeg, Int.reduceAdd, Int.reduceSub, Nat.reduceBEq, decide_true, decide_false, undef, beq_self_eq_true, bne_self_eq_false, Bool.and_true, Bool.true_and, Bool.and_false, Bool.false_and, Bool.or_true, Bool.true_or, Bool.or_false, Bool.false_or]
      refine ACallL.quiet1 (ask_ok _ 11) rfl rfl (by simp only [askO]; split <;> rfl) ?_
      cases h1 : decide (((truths f).length : Int) > 1)
      · have h1' : ¬ 1 < (truths f).length := by simp at h1; omega
        simp only [askO, go_sem, Nat.reduceEqDiff, Nat.reduceAdd, Nat.reduceSub, Nat.reduceMul, Nat.reduceLT, Nat.reduceLeDiff, Nat.reduceMod, Nat.reduceDiv, Int.reduceToNat, Int.reduceLT, Int.reduceLE, Bool.not_true, Bool.not_false, reduceIte, Int.reduceEq, Int.reduceBEq, Int.reduceBNe, Int.reduceGT, Int.reduceGE, Int.reduceNeg, Int.reduceAdd, Int.reduceSub, Nat.reduceBEq, decide_true, decide_false, undef, beq_self_eq_true, bne_self_eq_false, Bool.and_true, Bool.true_and, Bool.and_false, Bool.false_and, Bool.or_true, Bool.true_or, Bool.or_false, Bool.false_or]
        refine finDL_pan rfl rfl ((answer_pan rfl).mono fun σ' h => ?_)
        subst h
        exact ⟨_, rfl, [], rfl, rfl, res_mk (by simp only [specAsk, hok, hT, if_neg h1']; rfl)⟩
      · have h1' : 1 < (truths f).length := by simp at h1; omega
        simp only [askO, go_sem, Nat.reduceEqDiff, Nat.reduceAdd, Nat.reduceSub, Nat.reduceMul, Nat.reduceLT, Nat.reduceLeDiff, Nat.reduceMod, Nat.reduceDiv, Int.reduceToNat, Int.reduceLT, Int.reduceLE, Bool.not_true, Bool.not_false, reduceIte, Int.reduceEq, Int.reduceBEq, Int.reduceBNe, Int.reduceGT, Int.reduceGE, Int.reduceNeg, Int.reduceAdd, Int.reduceSub, Nat.reduceBEq, decide_true, decide_false, undef, beq_self_eq_true, bne_self_eq_false, Bool.and_true, Bool.true_and, Bool.and_false, Bool.false_and, Bool.or_true, Bool.true_or, Bool.or_false, Bool.false_or, hw0, List.length_map]
        refine awpL_for (i := 26) (L := 25) f.hs.length (fun k s => s = { env := [(26, .t (vi k)), (25, .t (vi f.hs.length)), (5, .t (tBch f)), (7, .t (vi (askF f k).1)), (8, .t (vi (askF f k).2)), (4, .ptr 0 0)], σ := [.cells [.t (vi 0)]], df := [.call 44 [.ptr 0 0]] }) ?_ ⟨_, Sub.gc [1] [26, 25, 5, 7, 8, 4] rfl rfl, rfl⟩ ?_ ?_
        · rintro k s rfl; exact ⟨rfl, rfl⟩
        · rintro k s hk rfl
          have hw : IntKind.i64.wrap ((k : Int) + 1) = ((k + 1 : Nat) : Int) := by rw [wrap_id (by omega) (by omega)]; omega
          have w0 := ways_ok f hf (.only k 0)
          have w1 := ways_ok f hf (.only k 1)
          have w2 := ways_ok f hf (.only k 2)
          rw [show wN f (.only k 0) = kindN f k 0 from onlyN_eq f hf k 0 hk] at w0
          rw [show wN f (.only k 1) = kindN f k 1 from onlyN_eq f hf k 1 hk] at w1
          rw [show wN f (.only k 2) = kindN f k 2 from onlyN_eq f hf k 2 hk] at w2
          have hmk : mostK f k = max (max (kindN f k 0) (kindN f k 1)) (kindN f k 2) := rfl
          have h61 := highest_ok [(kindN f k 0 : Int), (kindN f k 1 : Int), (kindN f k 2 : Int)] (by simp)
          have hg : hiG [(kindN f k 0 : Int), (kindN f k 1 : Int), (kindN f k 2 : Int)] = (mostK f k : Nat) := by
            rw [hmk]
            simp only [hiG, List.foldl_cons, List.foldl_nil]
            omega
          rw [hg] at h61
          have hs : askF f (k + 1) = if mostK f k < (askF f k).2 then (k, mostK f k) else askF f k := rfl
          generalize mostK f k = mk at *
          generalize kindN f k 0 = a0 at *
          generalize kindN f k 1 = a1 at *
          generalize kindN f k 2 = a2 at *
          simp only [tTl] at w0 w1 w2
          simp only [go_sem, Nat.reduceEqDiff, Nat.reduceAdd, Nat.reduceSub, Nat.reduceMul, Nat.reduceLT, Nat.reduceLeDiff, Nat.reduceMod, Nat.reduceDiv, Int.reduceToNat, Int.reduceLT, Int.reduceLE, Bool.not_true, Bool.not_false, reduceIte, Int.reduceEq, Int.reduceBEq, Int.reduceBNe, Int.reduceGT, Int.reduceGE, Int.reduceNeg, Int.reduceAdd, Int.reduceSub, Nat.reduceBEq, decide_true, decide_false, undef, beq_self_eq_true, bne_self_eq_false, Bool.and_true, Bool.true_and, Bool.and_false, Bool.false_and, Bool.or_true, Bool.true_or, Bool.or_false, Bool.false_or]
          refine ACallL.fresh1 w0 rfl ?_
          simp only [go_sem, Nat.reduceEqDiff, Nat.reduceAdd, Nat.reduceSub, Nat.reduceMul, Nat.reduceLT, Nat.reduceLeDiff, Nat.reduceMod, Nat.reduceDiv, Int.reduceToNat, Int.reduceLT, Int.reduceLE, Bool.not_true, Bool.not_false, reduceIte, Int.reduceEq, Int.reduceBEq, Int.reduceBNe, Int.reduceGT, Int.reduceGE, Int.reduceNeg, Int.reduceAdd, Int.reduceSub, Nat.reduceBEq, decide_true, decide_false, undef, beq_self_eq_true, bne_self_eq_false, Bool.and_true, Bool.true_and, Bool.and_false, Bool.false_and, Bool.or_true, Bool.true_or, Bool.or_false, Bool.false_or]
          refine ACallL.fresh1 w1 rfl ?_
          simp only [go_sem, Nat.reduceEqDiff, Nat.reduceAdd, Nat.reduceSub, Nat.reduceMul, Nat.reduceLT, Nat.reduceLeDiff, Nat.reduceMod, Nat.reduceDiv, Int.reduceToNat, Int.reduceLT, Int.reduceLE, Bool.not_true, Bool.not_false, reduceIte, Int.reduceEq, Int.reduceBEq, Int.reduceBNe, Int.reduceGT, Int.reduceGE, Int.reduceNeg, Int.reduceAdd, Int.reduceSub, Nat.reduceBEq, decide_true, decide_false, undef, beq_self_eq_true, bne_self_eq_false, Bool.and_true, Bool.true_and, Bool.and_false, Bool.false_and, Bool.or_true, Bool.true_or, Bool.or_false, Bool.false_or]
          refine ACallL.fresh1 w2 rfl ?_
          simp only [go_sem, Nat.reduceEqDiff, Nat.reduceAdd, Nat.reduceSub, Nat.reduceMul, Nat.reduceLT, Nat.reduceLeDiff, Nat.reduceMod, Nat.reduceDiv, Int.reduceToNat, Int.reduceLT, Int.reduceLE, Bool.not_true, Bool.not_false, reduceIte, Int.reduceEq, Int.reduceBEq, Int.reduceBNe, Int.reduceGT, Int.reduceGE, Int.reduceNeg, Int.reduceAdd, Int.reduceSub, Nat.reduceBEq, decide_true, decide_false, undef, beq_self_eq_true, bne_self_eq_false, Bool.and_true, Bool.true_and, Bool.and_false, Bool.false_and, Bool.or_true, Bool.true_or, Bool.or_false, Bool.false_or]
          refine ACallL.quiet1 h61 rfl rfl rfl ?_
          simp only [go_sem, Nat.reduceEqDiff, Nat.reduceAdd, Nat.reduceSub, Nat.reduceMul, Nat.reduceLT, Nat.reduceLeDiff, Nat.reduceMod, Nat.reduceDiv, Int.reduceToNat, Int.reduceLT, Int.reduceLE, Bool.not_true, Bool.not_false, reduceIte, Int.reduceEq, Int.reduceBEq, Int.reduceBNe, Int.reduceGT, Int.reduceGE, Int.reduceNeg, Int.reduceAdd, Int.reduceSub, Nat.reduceBEq, decide_true, decide_false, undef, beq_self_eq_true, bne_self_eq_false, Bool.and_true, Bool.true_and, Bool.and_false, Bool.false_and, Bool.or_true, Bool.true_or, Bool.or_false, Bool.false_or]
          refine BrL.mk (fun h2 => ?_) (fun h2 => ?_)
          · have h2' : mk < (askF f k).2 := by simp at h2; omega
            simp only [go_sem, Nat.reduceEqDiff, Nat.reduceAdd, Nat.reduceSub, Nat.reduceMul, Nat.reduceLT, Nat.reduceLeDiff, Nat.reduceMod, Nat.reduceDiv, Int.reduceToNat, Int.reduceLT, Int.reduceLE, Bool.not_true, Bool.not_false, reduceIte, Int.reduceEq, Int.reduceBEq, Int.reduceBNe, Int.reduceGT, Int.reduceGE, Int.reduceNeg, Int.reduceAdd, Int.reduceSub, Nat.reduceBEq, decide_true, decide_false, undef, beq_self_eq_true, bne_self_eq_false, Bool.and_true, Bool.true_and, Bool.and_false, Bool.false_and, Bool.or_true, Bool.true_or, Bool.or_false, Bool.false_or, h2, hw]
            refine ⟨_, Sub.gc [0] [26, 25, 5, 7, 8, 4] rfl rfl, ?_⟩
            rw [hs, if_pos h2']
            rfl
          · have h2' : ¬ mk < (askF f k).2 := by simp at h2; omega
            simp only [go_sem, Nat.reduceEqDiff, Nat.reduceAdd, Nat.reduceSub, Nat.reduceMul, Nat.reduceLT, Nat.reduceLeDiff, Nat.reduceMod, Nat.reduceDiv, Int.reduceToNat, Int.reduceLT, Int.reduceLE, Bool.not_true, Bool.not_false, reduceIte, Int.reduceEq, Int.reduceBEq, Int.reduceBNe, Int.reduceGT, Int.reduceGE, Int.reduceNeg, Int.reduceAdd, Int.reduceSub, Nat.reduceBEq, decide_true, decide_false, undef, beq_self_eq_true, bne_self_eq_false, Bool.and_true, Bool.true_and, Bool.and_false, Bool.false_and, Bool.or_true, Bool.true_or, Bool.or_false, Bool.false_or, h2, hw]
            refine ⟨_, Sub.gc [0] [26, 25, 5, 7, 8, 4] rfl rfl, ?_⟩
            rw [hs, if_neg h2']
            rfl
        · rintro s rfl
          simp only [go_sem, Nat.reduceEqDiff, Nat.reduceAdd, Nat.reduceSub, Nat.reduceMul, Nat.reduceLT, Nat.reduceLeDiff, Nat.reduceMod, Nat.reduceDiv, Int.reduceToNat, Int.reduceLT, Int.reduceLE, Bool.not_true, Bool.not_false, reduceIte, Int.reduceEq, Int.reduceBEq, Int.reduceBNe, Int.reduceGT, Int.reduceGE, Int.reduceNeg, Int.reduceAdd, Int.reduceSub, Nat.reduceBEq, decide_true, decide_false, undef, beq_self_eq_true, bne_self_eq_false, Bool.and_true, Bool.true_and, Bool.and_false, Bool.false_and, Bool.or_true, Bool.true_or, Bool.or_false, Bool.false_or]
          refine finDL_ret rfl rfl (answer_none.mono fun σ' h => ?_)
          subst h
          exact ⟨_, rfl, [], rfl, rfl, res_mk (by simp only [specAsk, hok, hT, if_pos h1']; rfl)⟩
    · simp only [askO, go_sem, Nat.reduceEqDiff, Nat.reduceAdd, Nat.reduceSub, Nat.reduceMul, Nat.reduceLT, Nat.reduceLeDiff, Nat.reduceMod, Nat.reduceDiv, Int.reduceToNat, Int.reduceLT, Int.reduceLE, Bool.not_true, Bool.not_false, reduceIte, Int.reduceEq, Int.reduceBEq, Int.reduceBNe, Int.reduceGT, Int.reduceGE, Int.reduceNeg, Int.reduceAdd, Int.reduceSub, Nat.reduceBEq, decide_true, decide_false, undef, beq_self_eq_true, bne_self_eq_false, Bool.and_true, Bool.true_and, Bool.and_false, Bool.false_and, Bool.or_true, Bool.true_or, Bool.or_false, Bool.false_or]
      refine finDL_pan rfl rfl ((answer_pan rfl).mono fun σ' h => ?_)
      subst h
      exact ⟨_, rfl, [], rfl, rfl, res_mk (by simp only [specAsk, hok, hT]; rfl)⟩
end Go.Proofs.YtkbjodmpmmnhgaaDoor
