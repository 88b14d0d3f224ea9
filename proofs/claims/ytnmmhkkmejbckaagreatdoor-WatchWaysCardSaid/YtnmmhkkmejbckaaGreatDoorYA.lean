/- Proved here: laws that the statements need (WzP, WzQ, WzC1, WzA, WzB, WzD). No conditions but those that each law states. -/
import Derived.Test.YtnmmhkkmejbckaaGreatDoorFL
import Derived.Test.YtnmmhkkmejbckaaGreatDoorFP
import Derived.Test.YtnmmhkkmejbckaaGreatDoorProg
import Derived.Test.YtnmmhkkmejbckaaGreatDoorFQ

set_option linter.unusedSimpArgs false
set_option linter.unusedVariables false

/- What watches are, in plain Lean: what they show, whose finds can be, all truths. No conditions. -/
namespace Go.Proofs.YtnmmhkkmejbckaaGreatDoor
open Go Go.Ab

structure Ow where
  set_ : Int
  lo : Int
  hi : Int
  huts : Int
  deriving DecidableEq
structure Fi where
  hut : Int
  minute : Int
  lo : Int
  hi : Int
  stopped : Bool
  deriving DecidableEq
structure Wa where
  os : List Ow
  fs : List Fi

def tOw (o : Ow) : T := .agg [vi o.set_, vi o.lo, vi o.hi, vi o.huts]
def tFi (f : Fi) : T := .agg [vi f.hut, vi f.minute, vi f.lo, vi f.hi, vb f.stopped]
def wa2 (w : Wa) : List T := [.slice 4 (w.os.map tOw), .slice 5 (w.fs.map tFi)]
def tWa (w : Wa) : T := .agg (wa2 w)
def tSp (a b : Int) : T := .agg [vi a, vi b]

/-! ### What is valid -/
def wI (n lo hi : Int) : Bool := decide (lo ≤ n ∧ n ≤ hi)
def okOw (o : Ow) : Bool := wI o.set_ 0 1440 && decide (-10 ≤ o.lo ∧ o.lo ≤ o.hi ∧ o.hi ≤ 10 ∧ o.hi - o.lo ≤ 2) && wI o.huts 0 63
def okFi (f : Fi) : Bool := wI f.hut 0 5 && wI f.minute 0 1440 && decide (0 ≤ f.lo ∧ f.lo ≤ f.hi ∧ f.hi < 720 ∧ f.hi - f.lo ≤ 30)
def Wa.ok (w : Wa) : Bool := decide (w.os.length ≤ 5 ∧ w.fs.length ≤ 4) && w.os.all okOw && w.fs.all okFi
structure Ow.OK (o : Ow) : Prop where
  set_ : 0 ≤ o.set_ ∧ o.set_ ≤ 1440
  gain : -10 ≤ o.lo ∧ o.lo ≤ o.hi ∧ o.hi ≤ 10 ∧ o.hi - o.lo ≤ 2
  huts : 0 ≤ o.huts ∧ o.huts ≤ 63
structure Fi.OK (f : Fi) : Prop where
  hut : 0 ≤ f.hut ∧ f.hut ≤ 5
  minute : 0 ≤ f.minute ∧ f.minute ≤ 1440
  shows : 0 ≤ f.lo ∧ f.lo ≤ f.hi ∧ f.hi < 720 ∧ f.hi - f.lo ≤ 30
structure Wa.OK (w : Wa) : Prop where
  no : w.os.length ≤ 5
  nf : w.fs.length ≤ 4
  os : ∀ o ∈ w.os, o.OK
  fs : ∀ f ∈ w.fs, f.OK
theorem okOw_iff (o : Ow) : okOw o = true ↔ o.OK := by
  unfold okOw wI
  simp only [Bool.and_eq_true, decide_eq_true_eq]
  exact ⟨fun ⟨⟨a, b⟩, c⟩ => ⟨a, b, c⟩, fun h => ⟨⟨h.set_, h.gain⟩, h.huts⟩⟩
theorem okFi_iff (f : Fi) : okFi f = true ↔ f.OK := by
  unfold okFi wI
  simp only [Bool.and_eq_true, decide_eq_true_eq]
  exact ⟨fun ⟨⟨a, b⟩, c⟩ => ⟨a, b, c⟩, fun h => ⟨⟨h.hut, h.minute⟩, h.shows⟩⟩
theorem Wa.ok_iff (w : Wa) : w.ok = true ↔ w.OK := by
  unfold Wa.ok
  simp only [Bool.and_eq_true, decide_eq_true_eq, List.all_eq_true, okOw_iff, okFi_iff]
  exact ⟨fun ⟨⟨⟨a, b⟩, c⟩, d⟩ => ⟨a, b, c, d⟩, fun h => ⟨⟨⟨h.no, h.nf⟩, h.os⟩, h.fs⟩⟩

/-! ### What a watch shows -/
def rngI (lo hi : Int) : List Int := (List.range (hi + 1 - lo).toNat).map fun j : Nat => lo + j
theorem mem_rngI {lo hi x : Int} : x ∈ rngI lo hi ↔ lo ≤ x ∧ x ≤ hi := by
  unfold rngI
  rw [List.mem_map]
  constructor
  · rintro ⟨j, hj, rfl⟩
    have := List.mem_range.1 hj
    omega
  · intro h
    exact ⟨(x - lo).toNat, List.mem_range.2 (by omega), by omega⟩
theorem rngI_len (lo hi : Int) : (rngI lo hi).length = (hi + 1 - lo).toNat := by simp [rngI]
theorem rngI_get {lo hi : Int} {j : Nat} (h : j < (hi + 1 - lo).toNat) : (rngI lo hi)[j]? = some (lo + j) := by
  unfold rngI
  rw [List.getElem?_map, List.getElem?_range h]; rfl
/-- The number of the dial at a minute, with a gain. -/
def dialI (o : Ow) (m g : Int) : Int := (m + g * (m - o.set_) / 60) % 720
theorem dialI_bd (o : Ow) (m g : Int) : 0 ≤ dialI o m g ∧ dialI o m g < 720 := ⟨Int.emod_nonneg _ (by decide), Int.emod_lt_of_pos _ (by decide)⟩
/-- What it can show. -/
def handsL (o : Ow) (m : Int) : List Int := if o.set_ ≤ m then (rngI o.lo o.hi).map (dialI o m) else []
def seen (o : Ow) (m lo hi : Int) : Bool := (handsL o m).any fun h => wI h lo hi
def hutB (o : Ow) (f : Fi) : Bool := o.huts.toNat.testBit f.hut.toNat
/-- Can it show at a minute what a find shows, and was the owner there? -/
def atB (o : Ow) (f : Fi) (m : Int) : Bool := hutB o f && seen o m f.lo f.hi
/-- The minutes at which it can have shown that. -/
def minsL (o : Ow) (f : Fi) : List Int := if f.stopped then (rngI o.set_ f.minute).filter (atB o f) else [f.minute].filter (atB o f)
def fitB (o : Ow) (f : Fi) : Bool := !(minsL o f).isEmpty
def maskW (p : Nat → Bool) : Nat → Nat
  | 0 => 0
  | k + 1 => maskW p k ||| if p k then 2 ^ k else 0
theorem maskW_bit (p : Nat → Bool) : ∀ k i, (maskW p k).testBit i = (decide (i < k) && p i)
  | 0, i => by simp [maskW]
  | k + 1, i => by
    rw [maskW, Nat.testBit_or, maskW_bit p k i]
    by_cases hi : i = k
    · subst hi
      cases h : p i
      · simp
      · simp [Nat.testBit_two_pow_self]
    · have e : decide (i < k + 1) = decide (i < k) := decide_eq_decide.2 (by omega)
      rw [e]
      cases h : p k
      · simp
      · simp [Nat.testBit_two_pow, Ne.symm hi]
theorem maskW_lt (p : Nat → Bool) : ∀ k, maskW p k < 2 ^ k
  | 0 => by simp [maskW]
  | k + 1 => by
    rw [maskW]
    have := maskW_lt p k
    have h2 : 2 ^ k < 2 ^ (k + 1) := Nat.pow_lt_pow_right (by decide) (by omega)
    refine Nat.or_lt_two_pow (by omega) ?_
    split
    · exact h2
    · exact Nat.two_pow_pos _
def fitP (os : List Ow) (f : Fi) (i : Nat) : Bool := match os[i]? with | some o => fitB o f | none => false
theorem fitP_at {os : List Ow} {f : Fi} {i : Nat} {o : Ow} (h : os[i]? = some o) : fitP os f i = fitB o f := by unfold fitP; rw [h]
theorem fitP_no {os : List Ow} {f : Fi} {i : Nat} (h : os.length ≤ i) : fitP os f i = false := by unfold fitP; rw [List.getElem?_eq_none h]
def fitN (os : List Ow) (f : Fi) : Nat := maskW (fitP os f) os.length
def Wa.fits (w : Wa) : List Nat := w.fs.map (fitN w.os)
theorem fitN_bit (os : List Ow) (f : Fi) (i : Nat) : (fitN os f).testBit i = fitP os f i := by
  unfold fitN
  rw [maskW_bit]
  by_cases h : i < os.length
  · rw [decide_eq_true h, Bool.true_and]
  · rw [decide_eq_false h, Bool.false_and, fitP_no (by omega)]

/-! ### What is told of all truths -/
structure Tel (α : Type) where
  e : α
  m : Nat → Nat → α → α
  j : α → α → α
def accT {α : Type} (val : List Bool → Option α) (t : Tel α) (k fit : Nat) (has : List Bool) (acc : Option α) (i : Nat) : Option α :=
  if has.getD i true || !fit.testBit i then acc else match val (has.set i true) with
    | none => acc
    | some r => some (match acc with | none => t.m k i r | some a => t.j a (t.m k i r))
/-- What is told, of so many finds that are left. -/
def tellV {α : Type} (t : Tel α) (fits : List Nat) : Nat → List Bool → Option α
  | 0, _ => some t.e
  | l + 1, has => (List.range 5).foldl (accT (tellV t fits l) t (fits.length - (l + 1)) (fits.getD (fits.length - (l + 1)) 0) has) none
/-- The truths: whose each find is. -/
def truT (fits : List Nat) : Nat → List Bool → List (List Nat)
  | 0, _ => [[]]
  | l + 1, has => (List.range 5).flatMap fun i => if has.getD i true || !(fits.getD (fits.length - (l + 1)) 0).testBit i then [] else (truT fits l (has.set i true)).map (i :: ·)
def has0 : List Bool := [false, false, false, false, false]
def truths (fits : List Nat) : List (List Nat) := truT fits fits.length has0
end Go.Proofs.YtnmmhkkmejbckaaGreatDoor

/- What is told of all truths is told by the list of truths. Plain Lean. -/
namespace Go.Proofs.YtnmmhkkmejbckaaGreatDoor
open Go Go.Ab

/-- What is so of some truths, if there are any. -/
def some? {α : Type} (F : List (List Nat) → α) (ts : List (List Nat)) : Option α := if ts.isEmpty then none else some (F ts)
theorem some?_nil {α : Type} (F : List (List Nat) → α) : some? F [] = none := rfl
theorem some?_ne {α : Type} {F : List (List Nat) → α} {ts : List (List Nat)} (h : ts ≠ []) : some? F ts = some (F ts) := by
  unfold some?
  cases ts with
  | nil => exact absurd rfl h
  | cons _ _ => rfl

/-- How truths are told. -/
structure Tells {α : Type} (t : Tel α) (n : Nat) (F : Nat → List (List Nat) → α) : Prop where
  e : F n [[]] = t.e
  m : ∀ k i ts, ts ≠ [] → t.m k i (F (k + 1) ts) = F k (ts.map (i :: ·))
  j : ∀ k a b, a ≠ [] → b ≠ [] → t.j (F k a) (F k b) = F k (a ++ b)

theorem tell_eq {α : Type} {t : Tel α} {fits : List Nat} {F : Nat → List (List Nat) → α} (h : Tells t fits.length F) : ∀ (l : Nat), l ≤ fits.length → ∀ has, tellV t fits l has = some? (F (fits.length - l)) (truT fits l has)
  | 0, _, has => by
    unfold tellV truT
    rw [Nat.sub_zero, some?_ne (by simp), h.e]
  | l + 1, hl, has => by
    have ih := tell_eq h l (by omega)
    have hk : fits.length - l = (fits.length - (l + 1)) + 1 := by omega
    rw [hk] at ih
    unfold tellV truT
    generalize fits.length - (l + 1) = k at *
    generalize fits.getD k 0 = fit at *
    have gen : ∀ m, ((List.range m).foldl (accT (tellV t fits l) t k fit has) none) = some? (F k) ((List.range m).flatMap fun i => if has.getD i true || !fit.testBit i then [] else (truT fits l (has.set i true)).map (i :: ·)) := by
      intro m
      induction m with
      | zero => rfl
      | succ m ihm =>
        rw [List.range_succ, List.foldl_append, List.flatMap_append, ihm]
        generalize (List.range m).flatMap (fun i => if has.getD i true || !fit.testBit i then [] else (truT fits l (has.set i true)).map (i :: ·)) = ts at *
        simp only [List.foldl_cons, List.foldl_nil, List.flatMap_cons, List.flatMap_nil, List.append_nil]
        unfold accT
        split
        · rw [List.append_nil]
        · rw [ih]
          by_cases hz : truT fits l (has.set m true) = []
          · rw [hz, some?_nil]; simp
          · have hz2 : (truT fits l (has.set m true)).map (m :: ·) ≠ [] := by simpa using hz
            rw [some?_ne hz]
            simp only
            rw [h.m _ _ _ hz]
            by_cases hts : ts = []
            · subst hts
              rw [some?_nil, List.nil_append, some?_ne hz2]
            · rw [some?_ne hts, some?_ne (by simp [hts])]
              simp only
              rw [h.j _ _ _ hts hz2]
    exact gen 5

/-! ### How many -/
def telN : Tel Int := ⟨1, fun _ _ r => r, fun a b => a + b⟩
theorem tells_N (n : Nat) : Tells telN n fun _ ts => (ts.length : Int) := ⟨rfl, fun k i ts _ => by simp [telN], fun k a b _ _ => by simp [telN]⟩
def waysN (fits : List Nat) : Nat := (truths fits).length
theorem ways_eq (fits : List Nat) : tellV telN fits fits.length has0 = if waysN fits = 0 then none else some (waysN fits : Int) := by
  rw [tell_eq (tells_N _) _ (Nat.le_refl _)]
  unfold some? waysN truths
  cases truT fits fits.length has0 with
  | nil => rfl
  | cons _ _ => simp

/-! ### Whose -/
/-- Of a place, the set of those who stand there. -/
def whoN (p : Nat) (ts : List (List Nat)) : Nat := ts.foldl (fun a l => a ||| match l[p]? with | some i => 2 ^ i | none => 0) 0
theorem foldl_or (f : List Nat → Nat) : ∀ (ts : List (List Nat)) (a : Nat), ts.foldl (fun a l => a ||| f l) a = a ||| ts.foldl (fun a l => a ||| f l) 0
  | [], a => by simp
  | l :: ts, a => by
    rw [List.foldl_cons, List.foldl_cons, foldl_or f ts (a ||| f l), foldl_or f ts (0 ||| f l), Nat.zero_or, Nat.or_assoc]
theorem whoN_append (p : Nat) (a b : List (List Nat)) : whoN p (a ++ b) = whoN p a ||| whoN p b := by
  unfold whoN
  rw [List.foldl_append, foldl_or]
theorem whoN_zero (i : Nat) : ∀ {ts : List (List Nat)}, ts ≠ [] → whoN 0 (ts.map (i :: ·)) = 2 ^ i
  | [l], _ => by simp [whoN]
  | l :: l' :: ts, _ => by
    have h := whoN_zero i (ts := l' :: ts) (by simp)
    rw [List.map_cons, show (i :: l) :: ((l' :: ts).map (i :: ·)) = [i :: l] ++ ((l' :: ts).map (i :: ·)) from rfl, whoN_append, h]
    simp [whoN]
theorem whoN_succ (i p : Nat) (ts : List (List Nat)) : whoN (p + 1) (ts.map (i :: ·)) = whoN p ts := by
  unfold whoN
  rw [List.foldl_map]
  simp
/-- For each find, whose it can be, from one on. -/
def whoL (k : Nat) (ts : List (List Nat)) : List Nat := (List.range 4).map fun p => if p < k then 0 else whoN (p - k) ts
def telW : Tel (List Nat) := ⟨[0, 0, 0, 0], fun k i r => r.set k (2 ^ i), fun a b => a.zipWith (· ||| ·) b⟩
theorem tells_W (n : Nat) : Tells telW n whoL := by
  refine ⟨?_, fun k i ts hts => ?_, fun k a b _ _ => ?_⟩
  · unfold whoL telW
    have e : ∀ p, whoN p [[]] = 0 := fun p => by simp [whoN]
    simp only [e]
    simp [List.range_succ]
  · unfold telW whoL
    simp only
    apply List.ext_getElem?
    intro p
    by_cases hp : p < 4
    · by_cases e : k = p
      · subst e
        rw [List.getElem?_set_self (by simpa using hp), List.getElem?_map, List.getElem?_range hp]
        simp only [Option.map_some]
        rw [if_neg (by omega), Nat.sub_self, whoN_zero i hts]
      · rw [List.getElem?_set_ne e, List.getElem?_map, List.getElem?_map, List.getElem?_range hp]
        simp only [Option.map_some]
        by_cases h2 : p < k
        · rw [if_pos h2, if_pos (by omega)]
        · rw [if_neg h2, if_neg (by omega), show p - k = (p - (k + 1)) + 1 by omega, whoN_succ]
    · rw [List.getElem?_eq_none (by simp; omega), List.getElem?_eq_none (by simp; omega)]
  · unfold telW whoL
    simp only
    rw [List.zipWith_map, List.zipWith_self]
    refine List.map_congr_left fun p _ => ?_
    split
    · simp
    · rw [whoN_append]
def whoseL (fits : List Nat) : List Nat := whoL 0 (truths fits)
theorem whose_eq (fits : List Nat) : tellV telW fits fits.length has0 = if waysN fits = 0 then none else some (whoseL fits) := by
  rw [tell_eq (tells_W _) _ (Nat.le_refl _), Nat.sub_self]
  unfold some? waysN whoseL truths
  cases truT fits fits.length has0 with
  | nil => rfl
  | cons _ _ => simp

/-! ### Truths -/
theorem truT_mem {fits : List Nat} : ∀ {l : Nat}, l ≤ fits.length → ∀ {has : List Bool} {ts : List Nat}, has.length = 5 → (ts ∈ truT fits l has ↔ (ts.length = l ∧ ts.Nodup ∧ (∀ i ∈ ts, has.getD i true = false) ∧ ∀ (p i : Nat), ts[p]? = some i → (fits.getD (fits.length - l + p) 0).testBit i = true ∧ i < 5))
  | 0, _, has, ts, _ => by
    unfold truT
    rw [List.mem_singleton]
    constructor
    · rintro rfl
      exact ⟨rfl, List.nodup_nil, by simp, by simp⟩
    · rintro ⟨h, _⟩
      exact List.eq_nil_of_length_eq_zero h
  | l + 1, hl, has, ts, hh => by
    have hk : ∀ p, fits.length - l + p = fits.length - (l + 1) + (p + 1) := fun p => by omega
    unfold truT
    rw [List.mem_flatMap]
    constructor
    · rintro ⟨i, hi, hts⟩
      have hi5 := List.mem_range.1 hi
      split at hts
      · simp at hts
      · rename_i hc
        simp only [Bool.or_eq_true, Bool.not_eq_true', not_or, Bool.not_eq_true, Bool.not_eq_false] at hc
        obtain ⟨t', ht', rfl⟩ := List.mem_map.1 hts
        obtain ⟨a1, a2, a3, a4⟩ := (truT_mem (by omega) (by rw [List.length_set]; exact hh)).1 ht'
        have hg : ∀ x, (has.set i true).getD x true = if x = i then true else has.getD x true := fun x => by
          rw [List.getD_eq_getElem?_getD, List.getD_eq_getElem?_getD]
          by_cases e : x = i
          · subst e; rw [if_pos rfl, List.getElem?_set_self (by omega)]; rfl
          · rw [if_neg e, List.getElem?_set_ne (Ne.symm e)]
        refine ⟨by simp [a1], List.nodup_cons.2 ⟨fun hm => ?_, a2⟩, fun x hx => ?_, fun p x hp => ?_⟩
        · have := a3 i hm
          rw [hg, if_pos rfl] at this
          cases this
        · rcases List.mem_cons.1 hx with rfl | hx
          · exact hc.1
          · have := a3 x hx
            rw [hg] at this
            split at this
            · cases this
            · exact this
        · cases p with
          | zero =>
            simp only [List.getElem?_cons_zero, Option.some.injEq] at hp
            subst hp
            exact ⟨by rw [Nat.add_zero]; exact hc.2, hi5⟩
          | succ p =>
            rw [List.getElem?_cons_succ] at hp
            have := a4 p x hp
            rw [hk] at this
            exact this
    · rintro ⟨a1, a2, a3, a4⟩
      cases ts with
      | nil => simp at a1
      | cons i t' =>
        obtain ⟨b1, b2⟩ := a4 0 i rfl
        rw [Nat.add_zero] at b1
        refine ⟨i, List.mem_range.2 b2, ?_⟩
        rw [if_neg (by rw [a3 i List.mem_cons_self, b1]; simp)]
        rw [List.nodup_cons] at a2
        refine List.mem_map.2 ⟨t', (truT_mem (by omega) (by rw [List.length_set]; exact hh)).2 ⟨by simpa using a1, a2.2, fun x hx => ?_, fun p x hp => ?_⟩, rfl⟩
        · have hne : x ≠ i := fun e => a2.1 (e ▸ hx)
          rw [List.getD_eq_getElem?_getD, List.getElem?_set_ne (Ne.symm hne), ← List.getD_eq_getElem?_getD]
          exact a3 x (List.mem_cons_of_mem _ hx)
        · have := a4 (p + 1) x (by rw [List.getElem?_cons_succ]; exact hp)
          rw [hk]
          exact this
/-- The truths: each find another owner's, who fits. -/
theorem truths_mem {fits : List Nat} {ts : List Nat} : ts ∈ truths fits ↔ (ts.length = fits.length ∧ ts.Nodup ∧ ∀ (p i : Nat), ts[p]? = some i → (fits.getD p 0).testBit i = true ∧ i < 5) := by
  unfold truths
  rw [truT_mem (Nat.le_refl _) rfl, Nat.sub_self]
  simp only [Nat.zero_add]
  constructor
  · rintro ⟨a, b, _, d⟩
    exact ⟨a, b, d⟩
  · rintro ⟨a, b, d⟩
    refine ⟨a, b, fun i hi => ?_, d⟩
    obtain ⟨p, hp⟩ := List.getElem?_of_mem hi
    have := (d p i hp).2
    unfold has0
    match i, this with
    | 0, _ | 1, _ | 2, _ | 3, _ | 4, _ => rfl
end Go.Proofs.YtnmmhkkmejbckaaGreatDoor

/- Compiled code of functions, printed by program; each is checked to be the program's. No conditions. -/
namespace Go.Proofs.YtnmmhkkmejbckaaGreatDoor
open Go Go.Ab
/-- dipworks/watch.stopped -/
def c30 : AC :=
 .seq (.seq (.reg [⟨(some 6), none, .mov (.tmp 0)⟩,
 ⟨(some 7), none, .nilcmp false (.tmp 6)⟩])
 (.cond (.tmp 7) (.ret)
 (.skip)))
 (.seq (.reg [⟨(some 9), none, .mov (.tmp 0)⟩,
 ⟨(some 10), none, .tass 101 true (.tmp 9)⟩,
 ⟨(some 8), none, .mov (.tmp 10)⟩,
 ⟨(some 11), none, .ext (.tmp 8) 0⟩,
 ⟨(some 12), none, .ext (.tmp 8) 1⟩,
 ⟨(some 4), none, .alloc [(.int .i64 0)]⟩,
 ⟨none, none, .store 1 (.tmp 4) (.tmp 11)⟩,
 ⟨(some 5), none, .mov (.tmp 12)⟩])
 (.seq (.seq (.reg [⟨(some 13), none, .mov (.tmp 5)⟩,
 ⟨(some 14), none, .un .not (.tmp 13)⟩])
 (.cond (.tmp 14) (.reg [⟨(some 15), none, .mov (.tmp 0)⟩,
 ⟨none, none, .pan (.tmp 15)⟩])
 (.skip)))
 (.reg [⟨(some 16), none, .mov (.tmp 1)⟩,
 ⟨(some 17), none, .faddr 0 (.tmp 4)⟩,
 ⟨(some 18), none, .load false 1 (.tmp 17)⟩,
 ⟨(some 19), none, .nilck (.tmp 16)⟩,
 ⟨none, none, .store 1 (.tmp 19) (.tmp 18)⟩])))
theorem k30 : FnC Tryz.prog 30 20 [] [] [] c30 2 := ⟨Tryz.f30, _, Tryz.func30, rfl, by decide, rfl, by decide, by kernel_rfl, by kernel_rfl⟩
/-- dipworks/watch.isOwner -/
def c32 : AC :=
 .seq (.reg [⟨(some 2), none, .box (.tmp 0)⟩,
 ⟨(some 4), none, .mov (.lit (.bool false))⟩])
 (.seq (.reg [⟨(some 5), none, .mov (.tmp 1)⟩,
 ⟨(some 6), none, .faddr 0 (.tmp 2)⟩,
 ⟨(some 7), none, .load false 1 (.tmp 6)⟩,
 ⟨(some 8), none, .len (.tmp 7)⟩,
 ⟨(some 9), none, .bin .sub (.tmp 8) (.lit (.int .i64 1))⟩,
 ⟨(some 10), none, .call (.fn 72) [(.tmp 5), (.lit (.int .i64 0)), (.tmp 9)]⟩,
 ⟨(some 4), none, .mov (.tmp 10)⟩])
 (.ret))
theorem k32 : FnC Tryz.prog 32 11 [] [] [.tmp 4] c32 2 := ⟨Tryz.f32, _, Tryz.func32, rfl, by decide, rfl, by decide, by kernel_rfl, by kernel_rfl⟩
/-- dipworks/watch.isMinute -/
def c33 : AC :=
 .seq (.reg [⟨(some 2), none, .mov (.lit (.bool false))⟩])
 (.seq (.reg [⟨(some 3), none, .mov (.tmp 0)⟩,
 ⟨(some 4), none, .call (.fn 72) [(.tmp 3), (.lit (.int .i64 0)), (.lit (.int .i64 1440))]⟩,
 ⟨(some 2), none, .mov (.tmp 4)⟩])
 (.ret))
theorem k33 : FnC Tryz.prog 33 5 [] [] [.tmp 2] c33 1 := ⟨Tryz.f33, _, Tryz.func33, rfl, by decide, rfl, by decide, by kernel_rfl, by kernel_rfl⟩
/-- dipworks/watch.must -/
def c34 : AC :=
 .seq (.reg [⟨(some 4), none, .mov (.tmp 0)⟩,
 ⟨(some 5), none, .un .not (.tmp 4)⟩])
 (.cond (.tmp 5) (.reg [⟨(some 6), none, .mov (.tmp 1)⟩,
 ⟨(some 7), none, .build [(.int .i64 0)] [(0, 1, (.tmp 6))]⟩,
 ⟨(some 8), none, .mkif 101 (.tmp 7)⟩,
 ⟨none, none, .pan (.tmp 8)⟩])
 (.skip))
theorem k34 : FnC Tryz.prog 34 9 [] [] [] c34 2 := ⟨Tryz.f34, _, Tryz.func34, rfl, by decide, rfl, by decide, by kernel_rfl, by kernel_rfl⟩
/-- (dipworks/watch.clock).hands -/
def c35 : AC :=
 .seq (.reg [⟨(some 2), none, .box (.tmp 0)⟩,
 ⟨(some 3), none, .box (.tmp 1)⟩,
 ⟨(some 4), none, .mov (.lit .nilFunc)⟩])
 (.seq (.reg [⟨(some 5), none, .alloc [.nilFunc]⟩,
 ⟨none, none, .store 1 (.tmp 5) (.fn 73)⟩])
 (.seq (.reg [⟨(some 6), none, .mkfn (.func 74) [] [(.tmp 2), (.tmp 3), (.tmp 5)]⟩,
 ⟨(some 4), none, .mov (.tmp 6)⟩])
 (.ret)))
theorem k35 : FnC Tryz.prog 35 7 [] [] [.tmp 4] c35 2 := ⟨Tryz.f35, _, Tryz.func35, rfl, by decide, rfl, by decide, by kernel_rfl, by kernel_rfl⟩
/-- dipworks/watch.isFind -/
def c43 : AC :=
 .seq (.reg [⟨(some 2), none, .box (.tmp 0)⟩,
 ⟨(some 4), none, .mov (.lit (.bool false))⟩])
 (.seq (.reg [⟨(some 5), none, .mov (.tmp 1)⟩,
 ⟨(some 6), none, .faddr 1 (.tmp 2)⟩,
 ⟨(some 7), none, .load false 1 (.tmp 6)⟩,
 ⟨(some 8), none, .len (.tmp 7)⟩,
 ⟨(some 9), none, .bin .sub (.tmp 8) (.lit (.int .i64 1))⟩,
 ⟨(some 10), none, .call (.fn 72) [(.tmp 5), (.lit (.int .i64 0)), (.tmp 9)]⟩,
 ⟨(some 4), none, .mov (.tmp 10)⟩])
 (.ret))
theorem k43 : FnC Tryz.prog 43 11 [] [] [.tmp 4] c43 2 := ⟨Tryz.f43, _, Tryz.func43, rfl, by decide, rfl, by decide, by kernel_rfl, by kernel_rfl⟩
/-- dipworks/watch.foundOf -/
def c48 : AC :=
 .seq (.reg [⟨(some 1), none, .box (.tmp 0)⟩,
 ⟨(some 2), none, .mov (.lit .nilIface)⟩])
 (.seq (.seq (.reg [⟨(some 3), none, .faddr 4 (.tmp 1)⟩,
 ⟨(some 4), none, .load false 1 (.tmp 3)⟩])
 (.cond (.tmp 4) (.seq (.reg [⟨(some 5), none, .load true 5 (.tmp 1)⟩,
 ⟨(some 6), none, .build [(.int .i64 0), (.int .i64 0), (.int .i64 0), (.int .i64 0), (.bool false)] [(0, 5, (.tmp 5))]⟩,
 ⟨(some 7), none, .build [(.int .i64 0), (.int .i64 0), (.int .i64 0), (.int .i64 0), (.bool false)] [(0, 5, (.tmp 6))]⟩,
 ⟨(some 8), none, .mkif 111 (.tmp 7)⟩,
 ⟨(some 2), none, .mov (.tmp 8)⟩])
 (.ret))
 (.skip)))
 (.seq (.reg [⟨(some 9), none, .load true 5 (.tmp 1)⟩,
 ⟨(some 10), none, .build [(.int .i64 0), (.int .i64 0), (.int .i64 0), (.int .i64 0), (.bool false)] [(0, 5, (.tmp 9))]⟩,
 ⟨(some 11), none, .mkif 109 (.tmp 10)⟩,
 ⟨(some 2), none, .mov (.tmp 11)⟩])
 (.ret)))
theorem k48 : FnC Tryz.prog 48 12 [] [] [.tmp 2] c48 1 := ⟨Tryz.f48, _, Tryz.func48, rfl, by decide, rfl, by decide, by kernel_rfl, by kernel_rfl⟩
/-- dipworks/watch.union -/
def c60 : AC :=
 .seq (.reg [⟨(some 2), none, .mov (.lit (.int .i64 0))⟩])
 (.seq (.seq (.reg [⟨(some 5), none, .mov (.tmp 0)⟩,
 ⟨(some 6), none, .len (.tmp 5)⟩,
 ⟨(some 7), none, .mov (.lit (.int .i64 0))⟩])
 (.block 0 (.loop (.seq (.reg [⟨(some 8), none, .bin .lss (.tmp 7) (.tmp 6)⟩])
 (.seq (.cond (.tmp 8) (.skip)
 (.exit 0))
 (.seq (.block 1 (.seq (.reg [⟨(some 9), none, .iaddr 1 (.tmp 5) (.tmp 7)⟩,
 ⟨(some 10), none, .load false 1 (.tmp 9)⟩,
 ⟨(some 4), none, .mov (.tmp 10)⟩])
 (.reg [⟨(some 11), none, .mov (.tmp 2)⟩,
 ⟨(some 12), none, .mov (.tmp 4)⟩,
 ⟨(some 13), none, .bin .or (.tmp 11) (.tmp 12)⟩,
 ⟨(some 2), none, .mov (.tmp 13)⟩])))
 (.reg [⟨(some 14), none, .bin .add (.tmp 7) (.lit (.int .i64 1))⟩,
 ⟨(some 7), none, .mov (.tmp 14)⟩])))))))
 (.seq (.reg [⟨(some 15), none, .mov (.tmp 2)⟩,
 ⟨(some 2), none, .mov (.tmp 15)⟩])
 (.ret)))
theorem k60 : FnC Tryz.prog 60 16 [] [] [.tmp 2] c60 1 := ⟨Tryz.f60, _, Tryz.func60, rfl, by decide, rfl, by decide, by kernel_rfl, by kernel_rfl⟩
/-- dipworks/watch.without -/
def c61 : AC :=
 .seq (.reg [⟨(some 4), none, .mov (.lit (.slice none 0 0))⟩])
 (.seq (.reg [⟨(some 7), none, .mov (.tmp 0)⟩,
 ⟨(some 8), none, .len (.tmp 7)⟩,
 ⟨(some 9), none, .mks 1 8 (.int .i64 0) (.tmp 8) (.tmp 8)⟩,
 ⟨(some 5), none, .mov (.tmp 9)⟩])
 (.seq (.reg [⟨(some 10), none, .mov (.tmp 5)⟩,
 ⟨(some 11), none, .mov (.tmp 0)⟩,
 ⟨(some 12), none, .cpy 1 (.tmp 10) (.tmp 11)⟩])
 (.seq (.seq (.reg [⟨(some 13), none, .mov (.tmp 5)⟩,
 ⟨(some 14), none, .len (.tmp 13)⟩,
 ⟨(some 15), none, .mov (.lit (.int .i64 0))⟩])
 (.block 0 (.loop (.seq (.reg [⟨(some 16), none, .bin .lss (.tmp 15) (.tmp 14)⟩])
 (.seq (.cond (.tmp 16) (.skip)
 (.exit 0))
 (.seq (.block 1 (.seq (.reg [⟨(some 17), none, .mov (.tmp 15)⟩,
 ⟨(some 6), none, .mov (.tmp 17)⟩])
 (.draw (.step ⟨(some 18), none, .mov (.tmp 5)⟩ (
 .step ⟨(some 19), none, .mov (.tmp 6)⟩ (
 .step ⟨(some 20), none, .iaddr 1 (.tmp 18) (.tmp 19)⟩ (
 .step ⟨(some 21), none, .load false 1 (.tmp 20)⟩ (
 .step ⟨(some 22), none, .mov (.tmp 1)⟩ (
 .step ⟨(some 23), none, .bin .shl (.lit (.int .i64 1)) (.tmp 22)⟩ (
 .step ⟨(some 24), none, .bin .andNot (.tmp 21) (.tmp 23)⟩ (
 .step ⟨(some 25), none, .iaddr 1 (.tmp 18) (.tmp 19)⟩ (
 .ev ⟨none, none, .store 1 (.tmp 25) (.tmp 24)⟩ [] (
 .done)
 (.stop)))))))))))))
 (.reg [⟨(some 26), none, .bin .add (.tmp 15) (.lit (.int .i64 1))⟩,
 ⟨(some 15), none, .mov (.tmp 26)⟩])))))))
 (.seq (.reg [⟨(some 27), none, .mov (.tmp 5)⟩,
 ⟨(some 4), none, .mov (.tmp 27)⟩])
 (.ret)))))
theorem k61 : FnC Tryz.prog 61 28 [] [] [.tmp 4] c61 2 := ⟨Tryz.f61, _, Tryz.func61, rfl, by decide, rfl, by decide, by kernel_rfl, by kernel_rfl⟩
/-- dipworks/watch.within -/
def c72 : AC :=
 .seq (.reg [⟨(some 6), none, .mov (.lit (.bool false))⟩])
 (.seq (.reg [⟨(some 7), none, .mov (.tmp 1)⟩,
 ⟨(some 8), none, .mov (.tmp 0)⟩,
 ⟨(some 9), none, .bin .leq (.tmp 7) (.tmp 8)⟩,
 ⟨(some 10), none, .mov (.tmp 9)⟩,
 ⟨(some 11), (some (10, true)), .mov (.tmp 0)⟩,
 ⟨(some 12), (some (10, true)), .mov (.tmp 2)⟩,
 ⟨(some 13), (some (10, true)), .bin .leq (.tmp 11) (.tmp 12)⟩,
 ⟨(some 14), none, .pick (.tmp 10) (.tmp 13) (.lit (.bool false))⟩,
 ⟨(some 6), none, .mov (.tmp 14)⟩])
 (.ret))
theorem k72 : FnC Tryz.prog 72 15 [] [] [.tmp 6] c72 3 := ⟨Tryz.f72, _, Tryz.func72, rfl, by decide, rfl, by decide, by kernel_rfl, by kernel_rfl⟩
/-- (dipworks/watch.hand).on -/
def c73 : AC :=
 .seq (.reg [⟨(some 4), none, .mov (.lit (.int .i64 0))⟩])
 (.seq (.reg [⟨(some 5), none, .mov (.tmp 0)⟩,
 ⟨(some 6), none, .mov (.tmp 1)⟩,
 ⟨(some 7), none, .bin .add (.tmp 5) (.tmp 6)⟩,
 ⟨(some 8), none, .bin .rem (.tmp 7) (.lit (.int .i64 720))⟩,
 ⟨(some 9), none, .bin .add (.tmp 8) (.lit (.int .i64 720))⟩,
 ⟨(some 10), none, .bin .rem (.tmp 9) (.lit (.int .i64 720))⟩,
 ⟨(some 4), none, .mov (.tmp 10)⟩])
 (.ret))
theorem k73 : FnC Tryz.prog 73 11 [] [] [.tmp 4] c73 2 := ⟨Tryz.f73, _, Tryz.func73, rfl, by decide, rfl, by decide, by kernel_rfl, by kernel_rfl⟩
/-- (dipworks/watch.clock).hands$1 -/
def c74 : AC :=
 .seq (.reg [⟨(some 6), none, .faddr 0 (.tmp 1)⟩,
 ⟨(some 7), none, .faddr 1 (.tmp 6)⟩,
 ⟨(some 8), none, .faddr 0 (.tmp 7)⟩,
 ⟨(some 9), none, .load false 1 (.tmp 8)⟩,
 ⟨(some 5), none, .mov (.tmp 9)⟩])
 (.block 0 (.loop (.seq (.seq (.reg [⟨(some 10), none, .mov (.tmp 5)⟩,
 ⟨(some 11), none, .faddr 0 (.tmp 1)⟩,
 ⟨(some 12), none, .faddr 1 (.tmp 11)⟩,
 ⟨(some 13), none, .faddr 1 (.tmp 12)⟩,
 ⟨(some 14), none, .load false 1 (.tmp 13)⟩,
 ⟨(some 15), none, .bin .leq (.tmp 10) (.tmp 14)⟩,
 ⟨(some 16), none, .mov (.tmp 15)⟩,
 ⟨(some 17), (some (16, true)), .load false 1 (.tmp 2)⟩,
 ⟨(some 18), (some (16, true)), .faddr 0 (.tmp 1)⟩,
 ⟨(some 19), (some (16, true)), .faddr 0 (.tmp 18)⟩,
 ⟨(some 20), (some (16, true)), .load false 1 (.tmp 19)⟩,
 ⟨(some 21), (some (16, true)), .bin .geq (.tmp 17) (.tmp 20)⟩,
 ⟨(some 22), none, .pick (.tmp 16) (.tmp 21) (.lit (.bool false))⟩])
 (.cond (.tmp 22) (.skip)
 (.exit 0)))
 (.seq (.block 1 (.seq (.draw (.step ⟨(some 25), none, .mov (.tmp 0)⟩ (
 .step ⟨(some 26), none, .load false 1 (.tmp 3)⟩ (
 .step ⟨(some 27), none, .load false 1 (.tmp 2)⟩ (
 .step ⟨(some 28), none, .mov (.tmp 5)⟩ (
 .step ⟨(some 29), none, .load false 1 (.tmp 2)⟩ (
 .step ⟨(some 30), none, .faddr 0 (.tmp 1)⟩ (
 .step ⟨(some 31), none, .faddr 0 (.tmp 30)⟩ (
 .step ⟨(some 32), none, .load false 1 (.tmp 31)⟩ (
 .step ⟨(some 33), none, .bin .sub (.tmp 29) (.tmp 32)⟩ (
 .step ⟨(some 34), none, .bin .mul (.tmp 28) (.tmp 33)⟩ (
 .ev ⟨(some 35), none, .call (.fn 75) [(.tmp 34)]⟩ [⟨(some 32), none, .load false 1 (.tmp 31)⟩, ⟨(some 31), none, .faddr 0 (.tmp 30)⟩, ⟨(some 30), none, .faddr 0 (.tmp 1)⟩, ⟨(some 29), none, .load false 1 (.tmp 2)⟩, ⟨(some 27), none, .load false 1 (.tmp 2)⟩, ⟨(some 26), none, .load false 1 (.tmp 3)⟩] (
 .step ⟨(some 36), none, .bin .add (.tmp 27) (.tmp 35)⟩ (
 .ev ⟨(some 37), none, .call (.tmp 26) [(.lit (.int .i64 0)), (.tmp 36)]⟩ [⟨(some 32), none, .load false 1 (.tmp 31)⟩, ⟨(some 31), none, .faddr 0 (.tmp 30)⟩, ⟨(some 30), none, .faddr 0 (.tmp 1)⟩, ⟨(some 29), none, .load false 1 (.tmp 2)⟩, ⟨(some 27), none, .load false 1 (.tmp 2)⟩] (
 .ev ⟨(some 38), none, .call (.tmp 25) [(.tmp 37)]⟩ [⟨(some 32), none, .load false 1 (.tmp 31)⟩, ⟨(some 31), none, .faddr 0 (.tmp 30)⟩, ⟨(some 30), none, .faddr 0 (.tmp 1)⟩, ⟨(some 29), none, .load false 1 (.tmp 2)⟩, ⟨(some 27), none, .load false 1 (.tmp 2)⟩, ⟨(some 26), none, .load false 1 (.tmp 3)⟩] (
 .step ⟨(some 39), none, .un .not (.tmp 38)⟩ (
 .done))
 (.stop))
 (.stop)))
 (.stop)))))))))))))
 (.cond (.tmp 39) (.ret)
 (.skip))))
 (.reg [⟨(some 23), none, .mov (.tmp 5)⟩,
 ⟨(some 24), none, .bin .add (.tmp 23) (.lit (.int .i64 1))⟩,
 ⟨(some 5), none, .mov (.tmp 24)⟩])))))
theorem k74 : FnC Tryz.prog 74 40 [] [] [] c74 4 := ⟨Tryz.f74, _, Tryz.func74, rfl, by decide, rfl, by decide, by kernel_rfl, by kernel_rfl⟩
/-- dipworks/watch.hours -/
def c75 : AC :=
 .seq (.reg [⟨(some 2), none, .mov (.lit (.int .i64 0))⟩])
 (.seq (.reg [⟨(some 4), none, .mov (.tmp 0)⟩,
 ⟨(some 5), none, .bin .quo (.tmp 4) (.lit (.int .i64 60))⟩,
 ⟨(some 3), none, .mov (.tmp 5)⟩])
 (.seq (.seq (.reg [⟨(some 6), none, .mov (.tmp 0)⟩,
 ⟨(some 7), none, .bin .rem (.tmp 6) (.lit (.int .i64 60))⟩,
 ⟨(some 8), none, .bin .lss (.tmp 7) (.lit (.int .i64 0))⟩])
 (.cond (.tmp 8) (.reg [⟨(some 9), none, .mov (.tmp 3)⟩,
 ⟨(some 10), none, .bin .sub (.tmp 9) (.lit (.int .i64 1))⟩,
 ⟨(some 3), none, .mov (.tmp 10)⟩])
 (.skip)))
 (.seq (.reg [⟨(some 11), none, .mov (.tmp 3)⟩,
 ⟨(some 2), none, .mov (.tmp 11)⟩])
 (.ret))))
theorem k75 : FnC Tryz.prog 75 12 [] [] [.tmp 2] c75 1 := ⟨Tryz.f75, _, Tryz.func75, rfl, by decide, rfl, by decide, by kernel_rfl, by kernel_rfl⟩
/-- (dipworks/watch.hand).in -/
def c125 : AC :=
 .seq (.reg [⟨(some 3), none, .box (.tmp 1)⟩,
 ⟨(some 4), none, .mov (.lit (.bool false))⟩])
 (.seq (.reg [⟨(some 5), none, .mov (.tmp 0)⟩,
 ⟨(some 6), none, .faddr 0 (.tmp 3)⟩,
 ⟨(some 7), none, .load false 1 (.tmp 6)⟩,
 ⟨(some 8), none, .faddr 1 (.tmp 3)⟩,
 ⟨(some 9), none, .load false 1 (.tmp 8)⟩,
 ⟨(some 10), none, .call (.fn 72) [(.tmp 5), (.tmp 7), (.tmp 9)]⟩,
 ⟨(some 4), none, .mov (.tmp 10)⟩])
 (.ret))
theorem k125 : FnC Tryz.prog 125 11 [] [] [.tmp 4] c125 2 := ⟨Tryz.f125, _, Tryz.func125, rfl, by decide, rfl, by decide, by kernel_rfl, by kernel_rfl⟩
/-- (dipworks/watch.going).at -/
def c126 : AC :=
 .seq (.reg [⟨(some 3), none, .box (.tmp 0)⟩,
 ⟨(some 4), none, .box (.tmp 1)⟩,
 ⟨(some 6), none, .mov (.lit (.bool false))⟩])
 (.seq (.reg [⟨(some 7), none, .faddr 0 (.tmp 4)⟩,
 ⟨(some 8), none, .faddr 3 (.tmp 7)⟩,
 ⟨(some 9), none, .load false 1 (.tmp 8)⟩,
 ⟨(some 10), none, .faddr 0 (.tmp 3)⟩,
 ⟨(some 11), none, .faddr 0 (.tmp 10)⟩,
 ⟨(some 12), none, .load false 1 (.tmp 11)⟩,
 ⟨(some 13), none, .bin .shr (.tmp 9) (.tmp 12)⟩,
 ⟨(some 14), none, .bin .and (.tmp 13) (.lit (.int .i64 1))⟩,
 ⟨(some 15), none, .bin .eql (.tmp 14) (.lit (.int .i64 1))⟩,
 ⟨(some 16), none, .mov (.tmp 15)⟩,
 ⟨(some 17), (some (16, true)), .load true 4 (.tmp 4)⟩,
 ⟨(some 18), (some (16, true)), .mov (.tmp 2)⟩,
 ⟨(some 19), (some (16, true)), .faddr 0 (.tmp 3)⟩,
 ⟨(some 20), (some (16, true)), .faddr 2 (.tmp 19)⟩,
 ⟨(some 21), (some (16, true)), .load true 2 (.tmp 20)⟩,
 ⟨(some 22), (some (16, true)), .call (.fn 129) [(.tmp 17), (.tmp 18), (.tmp 21)]⟩,
 ⟨(some 23), none, .pick (.tmp 16) (.tmp 22) (.lit (.bool false))⟩,
 ⟨(some 6), none, .mov (.tmp 23)⟩])
 (.ret))
theorem k126 : FnC Tryz.prog 126 24 [] [] [.tmp 6] c126 3 := ⟨Tryz.f126, _, Tryz.func126, rfl, by decide, rfl, by decide, by kernel_rfl, by kernel_rfl⟩
/-- (dipworks/watch.going).minutes -/
def c127 : AC :=
 .seq (.reg [⟨(some 2), none, .box (.tmp 0)⟩,
 ⟨(some 3), none, .box (.tmp 1)⟩,
 ⟨(some 4), none, .mov (.lit .nilFunc)⟩])
 (.seq (.reg [⟨(some 5), none, .mkfn (.func 128) [] [(.tmp 2), (.tmp 3)]⟩,
 ⟨(some 4), none, .mov (.tmp 5)⟩])
 (.ret))
theorem k127 : FnC Tryz.prog 127 6 [] [] [.tmp 4] c127 2 := ⟨Tryz.f127, _, Tryz.func127, rfl, by decide, rfl, by decide, by kernel_rfl, by kernel_rfl⟩
/-- (dipworks/watch.going).minutes$1 -/
def c128 : AC :=
 .seq (.reg [⟨(some 4), none, .load true 5 (.tmp 1)⟩,
 ⟨(some 5), none, .load true 4 (.tmp 2)⟩,
 ⟨(some 6), none, .faddr 0 (.tmp 1)⟩,
 ⟨(some 7), none, .faddr 1 (.tmp 6)⟩,
 ⟨(some 8), none, .load false 1 (.tmp 7)⟩,
 ⟨(some 9), none, .call (.fn 126) [(.tmp 4), (.tmp 5), (.tmp 8)]⟩])
 (.cond (.tmp 9) (.reg [⟨(some 10), none, .mov (.tmp 0)⟩,
 ⟨(some 11), none, .faddr 0 (.tmp 1)⟩,
 ⟨(some 12), none, .faddr 1 (.tmp 11)⟩,
 ⟨(some 13), none, .load false 1 (.tmp 12)⟩,
 ⟨(some 14), none, .call (.tmp 10) [(.tmp 13)]⟩])
 (.skip))
theorem k128 : FnC Tryz.prog 128 15 [] [] [] c128 3 := ⟨Tryz.f128, _, Tryz.func128, rfl, by decide, rfl, by decide, by kernel_rfl, by kernel_rfl⟩
/-- (dipworks/watch.clock).shows -/
def c129 : AC :=
 .seq (.reg [⟨(some 3), none, .box (.tmp 0)⟩,
 ⟨(some 5), none, .box (.tmp 2)⟩,
 ⟨(some 6), none, .alloc [(.bool false)]⟩])
 (.seq (.seq (.reg [⟨(some 9), none, .load true 4 (.tmp 3)⟩,
 ⟨(some 10), none, .mov (.tmp 1)⟩,
 ⟨(some 11), none, .call (.fn 35) [(.tmp 9), (.tmp 10)]⟩])
 (.block 0 (.rangeF (.tmp 11) 12 (.reg [⟨(some 7), none, .mov (.tmp 12)⟩])
 (.block 1 (.seq (.reg [⟨(some 13), none, .mov (.tmp 7)⟩,
 ⟨(some 14), none, .mkfn (.func 125) [(.tmp 13)] []⟩,
 ⟨(some 8), none, .mov (.tmp 14)⟩])
 (.seq (.reg [⟨(some 15), none, .mov (.tmp 8)⟩,
 ⟨(some 16), none, .load true 2 (.tmp 5)⟩,
 ⟨(some 17), none, .call (.tmp 15) [(.tmp 16)]⟩])
 (.cond (.tmp 17) (.seq (.reg [⟨none, none, .store 1 (.tmp 6) (.lit (.bool true))⟩])
 (.ret))
 (.skip))))))))
 (.seq (.reg [⟨none, none, .store 1 (.tmp 6) (.lit (.bool false))⟩])
 (.ret)))
theorem k129 : FnC Tryz.prog 129 18 [6] [] [.cell 6 false 1] c129 3 := ⟨Tryz.f129, _, Tryz.func129, rfl, by decide, rfl, by decide, by kernel_rfl, by kernel_rfl⟩
/-- (dipworks/watch.still).minutes -/
def c130 : AC :=
 .seq (.reg [⟨(some 2), none, .box (.tmp 0)⟩,
 ⟨(some 3), none, .box (.tmp 1)⟩,
 ⟨(some 4), none, .mov (.lit .nilFunc)⟩])
 (.seq (.reg [⟨(some 5), none, .mkfn (.func 131) [] [(.tmp 3), (.tmp 2)]⟩,
 ⟨(some 4), none, .mov (.tmp 5)⟩])
 (.ret))
theorem k130 : FnC Tryz.prog 130 6 [] [] [.tmp 4] c130 2 := ⟨Tryz.f130, _, Tryz.func130, rfl, by decide, rfl, by decide, by kernel_rfl, by kernel_rfl⟩
/-- (dipworks/watch.still).minutes$1 -/
def c131 : AC :=
 .scope (.seq (.skip)
 (.seq (.reg [⟨(some 5), none, .faddr 0 (.tmp 1)⟩,
 ⟨(some 6), none, .faddr 0 (.tmp 5)⟩,
 ⟨(some 7), none, .load false 1 (.tmp 6)⟩,
 ⟨(some 4), none, .mov (.tmp 7)⟩])
 (.block 0 (.loop (.seq (.seq (.reg [⟨(some 8), none, .mov (.tmp 4)⟩,
 ⟨(some 9), none, .faddr 0 (.tmp 2)⟩,
 ⟨(some 10), none, .faddr 0 (.tmp 9)⟩,
 ⟨(some 11), none, .faddr 1 (.tmp 10)⟩,
 ⟨(some 12), none, .load false 1 (.tmp 11)⟩,
 ⟨(some 13), none, .bin .leq (.tmp 8) (.tmp 12)⟩])
 (.cond (.tmp 13) (.skip)
 (.exit 0)))
 (.seq (.block 1 (.seq (.seq (.reg [⟨(some 16), none, .faddr 0 (.tmp 2)⟩,
 ⟨(some 17), none, .load true 5 (.tmp 16)⟩,
 ⟨(some 18), none, .load true 4 (.tmp 1)⟩,
 ⟨(some 19), none, .mov (.tmp 4)⟩,
 ⟨(some 20), none, .call (.fn 126) [(.tmp 17), (.tmp 18), (.tmp 19)]⟩,
 ⟨(some 21), none, .un .not (.tmp 20)⟩])
 (.cond (.tmp 21) (.exit 1)
 (.skip)))
 (.seq (.reg [⟨(some 22), none, .mov (.tmp 0)⟩,
 ⟨(some 23), none, .mov (.tmp 4)⟩,
 ⟨(some 24), none, .call (.tmp 22) [(.tmp 23)]⟩,
 ⟨(some 25), none, .un .not (.tmp 24)⟩])
 (.cond (.tmp 25) (.ret)
 (.skip)))))
 (.reg [⟨(some 14), none, .mov (.tmp 4)⟩,
 ⟨(some 15), none, .bin .add (.tmp 14) (.lit (.int .i64 1))⟩,
 ⟨(some 4), none, .mov (.tmp 15)⟩])))))))
theorem k131 : FnC Tryz.prog 131 26 [] [] [] c131 3 := ⟨Tryz.f131, _, Tryz.func131, rfl, by decide, rfl, by decide, by kernel_rfl, by kernel_rfl⟩
/-- dipworks/watch.open -/
def c31 : AC :=
 .seq (.reg [⟨(some 2), none, .box (.tmp 0)⟩,
 ⟨(some 4), none, .mov (.lit (.pointer none))⟩])
 (.seq (.reg [⟨(some 15), none, .faddr 0 (.tmp 2)⟩,
 ⟨(some 16), none, .load false 1 (.tmp 15)⟩,
 ⟨(some 17), none, .len (.tmp 16)⟩,
 ⟨(some 18), none, .bin .leq (.tmp 17) (.lit (.int .i64 5))⟩,
 ⟨(some 19), none, .mov (.tmp 18)⟩,
 ⟨(some 20), (some (19, true)), .faddr 1 (.tmp 2)⟩,
 ⟨(some 21), (some (19, true)), .load false 1 (.tmp 20)⟩,
 ⟨(some 22), (some (19, true)), .len (.tmp 21)⟩,
 ⟨(some 23), (some (19, true)), .bin .leq (.tmp 22) (.lit (.int .i64 4))⟩,
 ⟨(some 24), none, .pick (.tmp 19) (.tmp 23) (.lit (.bool false))⟩,
 ⟨(some 25), none, .call (.fn 34) [(.tmp 24), (.lit (.int .i64 1))]⟩])
 (.seq (.seq (.reg [⟨(some 26), none, .faddr 0 (.tmp 2)⟩,
 ⟨(some 27), none, .load false 1 (.tmp 26)⟩,
 ⟨(some 28), none, .len (.tmp 27)⟩,
 ⟨(some 29), none, .mov (.lit (.int .i64 0))⟩])
 (.block 0 (.loop (.seq (.reg [⟨(some 30), none, .bin .lss (.tmp 29) (.tmp 28)⟩])
 (.seq (.cond (.tmp 30) (.skip)
 (.exit 0))
 (.seq (.block 1 (.seq (.reg [⟨(some 31), none, .iaddr 4 (.tmp 27) (.tmp 29)⟩,
 ⟨(some 32), none, .load true 4 (.tmp 31)⟩,
 ⟨(some 6), none, .alloc [(.int .i64 0), (.int .i64 0), (.int .i64 0), (.int .i64 0)]⟩,
 ⟨none, none, .store 4 (.tmp 6) (.tmp 32)⟩])
 (.reg [⟨(some 33), none, .faddr 0 (.tmp 6)⟩,
 ⟨(some 34), none, .load false 1 (.tmp 33)⟩,
 ⟨(some 35), none, .call (.fn 33) [(.tmp 34)]⟩,
 ⟨(some 36), none, .mov (.tmp 35)⟩,
 ⟨(some 37), (some (36, true)), .faddr 1 (.tmp 6)⟩,
 ⟨(some 38), (some (36, true)), .faddr 0 (.tmp 37)⟩,
 ⟨(some 39), (some (36, true)), .load false 1 (.tmp 38)⟩,
 ⟨(some 40), (some (36, true)), .bin .leq (.lit (.int .i64 (-10))) (.tmp 39)⟩,
 ⟨(some 41), none, .pick (.tmp 36) (.tmp 40) (.lit (.bool false))⟩,
 ⟨(some 42), none, .mov (.tmp 41)⟩,
 ⟨(some 43), (some (42, true)), .faddr 1 (.tmp 6)⟩,
 ⟨(some 44), (some (42, true)), .faddr 0 (.tmp 43)⟩,
 ⟨(some 45), (some (42, true)), .load false 1 (.tmp 44)⟩,
 ⟨(some 46), (some (42, true)), .faddr 1 (.tmp 6)⟩,
 ⟨(some 47), (some (42, true)), .faddr 1 (.tmp 46)⟩,
 ⟨(some 48), (some (42, true)), .load false 1 (.tmp 47)⟩,
 ⟨(some 49), (some (42, true)), .bin .leq (.tmp 45) (.tmp 48)⟩,
 ⟨(some 50), none, .pick (.tmp 42) (.tmp 49) (.lit (.bool false))⟩,
 ⟨(some 51), none, .mov (.tmp 50)⟩,
 ⟨(some 52), (some (51, true)), .faddr 1 (.tmp 6)⟩,
 ⟨(some 53), (some (51, true)), .faddr 1 (.tmp 52)⟩,
 ⟨(some 54), (some (51, true)), .load false 1 (.tmp 53)⟩,
 ⟨(some 55), (some (51, true)), .bin .leq (.tmp 54) (.lit (.int .i64 10))⟩,
 ⟨(some 56), none, .pick (.tmp 51) (.tmp 55) (.lit (.bool false))⟩,
 ⟨(some 57), none, .mov (.tmp 56)⟩,
 ⟨(some 58), (some (57, true)), .faddr 1 (.tmp 6)⟩,
 ⟨(some 59), (some (57, true)), .faddr 1 (.tmp 58)⟩,
 ⟨(some 60), (some (57, true)), .load false 1 (.tmp 59)⟩,
 ⟨(some 61), (some (57, true)), .faddr 1 (.tmp 6)⟩,
 ⟨(some 62), (some (57, true)), .faddr 0 (.tmp 61)⟩,
 ⟨(some 63), (some (57, true)), .load false 1 (.tmp 62)⟩,
 ⟨(some 64), (some (57, true)), .bin .sub (.tmp 60) (.tmp 63)⟩,
 ⟨(some 65), (some (57, true)), .bin .leq (.tmp 64) (.lit (.int .i64 2))⟩,
 ⟨(some 66), none, .pick (.tmp 57) (.tmp 65) (.lit (.bool false))⟩,
 ⟨(some 67), none, .mov (.tmp 66)⟩,
 ⟨(some 68), (some (67, true)), .faddr 3 (.tmp 6)⟩,
 ⟨(some 69), (some (67, true)), .load false 1 (.tmp 68)⟩,
 ⟨(some 70), (some (67, true)), .call (.fn 72) [(.tmp 69), (.lit (.int .i64 0)), (.lit (.int .i64 63))]⟩,
 ⟨(some 71), none, .pick (.tmp 67) (.tmp 70) (.lit (.bool false))⟩,
 ⟨(some 72), none, .call (.fn 34) [(.tmp 71), (.lit (.int .i64 1))]⟩])))
 (.reg [⟨(some 73), none, .bin .add (.tmp 29) (.lit (.int .i64 1))⟩,
 ⟨(some 29), none, .mov (.tmp 73)⟩])))))))
 (.seq (.seq (.reg [⟨(some 74), none, .faddr 1 (.tmp 2)⟩,
 ⟨(some 75), none, .load false 1 (.tmp 74)⟩,
 ⟨(some 76), none, .len (.tmp 75)⟩,
 ⟨(some 77), none, .mov (.lit (.int .i64 0))⟩])
 (.block 2 (.loop (.seq (.reg [⟨(some 78), none, .bin .lss (.tmp 77) (.tmp 76)⟩])
 (.seq (.cond (.tmp 78) (.skip)
 (.exit 2))
 (.seq (.block 3 (.seq (.reg [⟨(some 79), none, .iaddr 5 (.tmp 75) (.tmp 77)⟩,
 ⟨(some 80), none, .load true 5 (.tmp 79)⟩,
 ⟨(some 8), none, .alloc [(.int .i64 0), (.int .i64 0), (.int .i64 0), (.int .i64 0), (.bool false)]⟩,
 ⟨none, none, .store 5 (.tmp 8) (.tmp 80)⟩])
 (.reg [⟨(some 81), none, .faddr 0 (.tmp 8)⟩,
 ⟨(some 82), none, .load false 1 (.tmp 81)⟩,
 ⟨(some 83), none, .call (.fn 72) [(.tmp 82), (.lit (.int .i64 0)), (.lit (.int .i64 5))]⟩,
 ⟨(some 84), none, .mov (.tmp 83)⟩,
 ⟨(some 85), (some (84, true)), .faddr 1 (.tmp 8)⟩,
 ⟨(some 86), (some (84, true)), .load false 1 (.tmp 85)⟩,
 ⟨(some 87), (some (84, true)), .call (.fn 33) [(.tmp 86)]⟩,
 ⟨(some 88), none, .pick (.tmp 84) (.tmp 87) (.lit (.bool false))⟩,
 ⟨(some 89), none, .mov (.tmp 88)⟩,
 ⟨(some 90), (some (89, true)), .faddr 2 (.tmp 8)⟩,
 ⟨(some 91), (some (89, true)), .faddr 0 (.tmp 90)⟩,
 ⟨(some 92), (some (89, true)), .load false 1 (.tmp 91)⟩,
 ⟨(some 93), (some (89, true)), .bin .leq (.lit (.int .i64 0)) (.tmp 92)⟩,
 ⟨(some 94), none, .pick (.tmp 89) (.tmp 93) (.lit (.bool false))⟩,
 ⟨(some 95), none, .mov (.tmp 94)⟩,
 ⟨(some 96), (some (95, true)), .faddr 2 (.tmp 8)⟩,
 ⟨(some 97), (some (95, true)), .faddr 0 (.tmp 96)⟩,
 ⟨(some 98), (some (95, true)), .load false 1 (.tmp 97)⟩,
 ⟨(some 99), (some (95, true)), .faddr 2 (.tmp 8)⟩,
 ⟨(some 100), (some (95, true)), .faddr 1 (.tmp 99)⟩,
 ⟨(some 101), (some (95, true)), .load false 1 (.tmp 100)⟩,
 ⟨(some 102), (some (95, true)), .bin .leq (.tmp 98) (.tmp 101)⟩,
 ⟨(some 103), none, .pick (.tmp 95) (.tmp 102) (.lit (.bool false))⟩,
 ⟨(some 104), none, .mov (.tmp 103)⟩,
 ⟨(some 105), (some (104, true)), .faddr 2 (.tmp 8)⟩,
 ⟨(some 106), (some (104, true)), .faddr 1 (.tmp 105)⟩,
 ⟨(some 107), (some (104, true)), .load false 1 (.tmp 106)⟩,
 ⟨(some 108), (some (104, true)), .bin .lss (.tmp 107) (.lit (.int .i64 720))⟩,
 ⟨(some 109), none, .pick (.tmp 104) (.tmp 108) (.lit (.bool false))⟩,
 ⟨(some 110), none, .mov (.tmp 109)⟩,
 ⟨(some 111), (some (110, true)), .faddr 2 (.tmp 8)⟩,
 ⟨(some 112), (some (110, true)), .faddr 1 (.tmp 111)⟩,
 ⟨(some 113), (some (110, true)), .load false 1 (.tmp 112)⟩,
 ⟨(some 114), (some (110, true)), .faddr 2 (.tmp 8)⟩,
 ⟨(some 115), (some (110, true)), .faddr 0 (.tmp 114)⟩,
 ⟨(some 116), (some (110, true)), .load false 1 (.tmp 115)⟩,
 ⟨(some 117), (some (110, true)), .bin .sub (.tmp 113) (.tmp 116)⟩,
 ⟨(some 118), (some (110, true)), .bin .leq (.tmp 117) (.lit (.int .i64 30))⟩,
 ⟨(some 119), none, .pick (.tmp 110) (.tmp 118) (.lit (.bool false))⟩,
 ⟨(some 120), none, .call (.fn 34) [(.tmp 119), (.lit (.int .i64 1))]⟩])))
 (.reg [⟨(some 121), none, .bin .add (.tmp 77) (.lit (.int .i64 1))⟩,
 ⟨(some 77), none, .mov (.tmp 121)⟩])))))))
 (.seq (.reg [⟨(some 122), none, .mov (.tmp 1)⟩,
 ⟨(some 123), none, .call (.fn 34) [(.tmp 122), (.lit (.int .i64 2))]⟩])
 (.seq (.reg [⟨(some 124), none, .load true 2 (.tmp 2)⟩,
 ⟨(some 125), none, .build [(.slice none 0 0), (.slice none 0 0), (.slice none 0 0)] [(0, 2, (.tmp 124))]⟩,
 ⟨(some 126), none, .box (.tmp 125)⟩,
 ⟨(some 9), none, .mov (.tmp 126)⟩])
 (.seq (.seq (.reg [⟨(some 127), none, .faddr 1 (.tmp 2)⟩,
 ⟨(some 128), none, .load false 1 (.tmp 127)⟩,
 ⟨(some 129), none, .len (.tmp 128)⟩,
 ⟨(some 130), none, .mov (.lit (.int .i64 0))⟩])
 (.block 4 (.loop (.seq (.reg [⟨(some 131), none, .bin .lss (.tmp 130) (.tmp 129)⟩])
 (.seq (.cond (.tmp 131) (.skip)
 (.exit 4))
 (.seq (.block 5 (.seq (.reg [⟨(some 132), none, .iaddr 5 (.tmp 128) (.tmp 130)⟩,
 ⟨(some 133), none, .load true 5 (.tmp 132)⟩,
 ⟨(some 11), none, .alloc [(.int .i64 0), (.int .i64 0), (.int .i64 0), (.int .i64 0), (.bool false)]⟩,
 ⟨none, none, .store 5 (.tmp 11) (.tmp 133)⟩])
 (.seq (.reg [⟨(some 12), none, .alloc [(.int .i64 0)]⟩,
 ⟨none, none, .store 1 (.tmp 12) (.lit (.int .i64 0))⟩])
 (.seq (.seq (.reg [⟨(some 134), none, .faddr 0 (.tmp 2)⟩,
 ⟨(some 135), none, .load false 1 (.tmp 134)⟩,
 ⟨(some 136), none, .len (.tmp 135)⟩,
 ⟨(some 137), none, .mov (.lit (.int .i64 0))⟩])
 (.block 6 (.loop (.seq (.reg [⟨(some 138), none, .bin .lss (.tmp 137) (.tmp 136)⟩])
 (.seq (.cond (.tmp 138) (.skip)
 (.exit 6))
 (.seq (.block 7 (.seq (.reg [⟨(some 139), none, .mov (.tmp 137)⟩,
 ⟨(some 140), none, .iaddr 4 (.tmp 135) (.tmp 137)⟩,
 ⟨(some 141), none, .load true 4 (.tmp 140)⟩,
 ⟨(some 13), none, .alloc [(.int .i64 0)]⟩,
 ⟨(some 14), none, .alloc [(.int .i64 0), (.int .i64 0), (.int .i64 0), (.int .i64 0)]⟩,
 ⟨none, none, .store 1 (.tmp 13) (.tmp 139)⟩,
 ⟨none, none, .store 4 (.tmp 14) (.tmp 141)⟩])
 (.seq (.draw (.step ⟨(some 142), none, .load true 5 (.tmp 11)⟩ (
 .step ⟨(some 144), none, .load true 4 (.tmp 14)⟩ (
 .step ⟨(some 145), none, .build [(.int .i64 0), (.int .i64 0), (.int .i64 0), (.int .i64 0)] [(0, 4, (.tmp 144))]⟩ (
 .ev ⟨(some 143), none, .call (.fn 48) [(.tmp 142)]⟩ [⟨(some 144), none, .load true 4 (.tmp 14)⟩] (
 .ev ⟨(some 146), none, .inv [(109, 127), (111, 130)] (.tmp 143) [(.tmp 145)]⟩ [⟨(some 144), none, .load true 4 (.tmp 14)⟩, ⟨(some 142), none, .load true 5 (.tmp 11)⟩] (
 .done)
 (.stop))
 (.stop))))))
 (.block 8 (.rangeF (.tmp 146) 147 (.skip)
 (.block 9 (.seq (.draw (.step ⟨(some 148), none, .load false 1 (.tmp 12)⟩ (
 .step ⟨(some 149), none, .load false 1 (.tmp 13)⟩ (
 .step ⟨(some 150), none, .bin .shl (.lit (.int .i64 1)) (.tmp 149)⟩ (
 .ev ⟨(some 151), none, .bslice 1 (.int .i64 0) 2 [(0, (.tmp 148)), (1, (.tmp 150))]⟩ [⟨(some 149), none, .load false 1 (.tmp 13)⟩] (
 .ev ⟨(some 152), none, .call (.fn 60) [(.tmp 151)]⟩ [⟨(some 149), none, .load false 1 (.tmp 13)⟩, ⟨(some 148), none, .load false 1 (.tmp 12)⟩] (
 .ev ⟨none, none, .store 1 (.tmp 12) (.tmp 152)⟩ [] (
 .done)
 (.stop))
 (.stop))
 (.stop))))))
 (.exit 8))))))))
 (.reg [⟨(some 153), none, .bin .add (.tmp 137) (.lit (.int .i64 1))⟩,
 ⟨(some 137), none, .mov (.tmp 153)⟩])))))))
 (.draw (.step ⟨(some 154), none, .mov (.tmp 9)⟩ (
 .step ⟨(some 155), none, .mov (.tmp 9)⟩ (
 .step ⟨(some 156), none, .nilck (.tmp 155)⟩ (
 .step ⟨(some 157), none, .faddr 2 (.tmp 156)⟩ (
 .step ⟨(some 158), none, .load false 1 (.tmp 157)⟩ (
 .step ⟨(some 159), none, .load false 1 (.tmp 12)⟩ (
 .ev ⟨(some 160), none, .bslice 1 (.int .i64 0) 1 [(0, (.tmp 159))]⟩ [⟨(some 158), none, .load false 1 (.tmp 157)⟩, ⟨(some 157), none, .faddr 2 (.tmp 156)⟩, ⟨(some 156), none, .nilck (.tmp 155)⟩] (
 .ev ⟨(some 161), none, .app 1 8 (.tmp 158) (.tmp 160)⟩ [⟨(some 159), none, .load false 1 (.tmp 12)⟩, ⟨(some 157), none, .faddr 2 (.tmp 156)⟩, ⟨(some 156), none, .nilck (.tmp 155)⟩] (
 .step ⟨(some 162), none, .nilck (.tmp 154)⟩ (
 .step ⟨(some 163), none, .faddr 2 (.tmp 162)⟩ (
 .ev ⟨none, none, .store 1 (.tmp 163) (.tmp 161)⟩ [⟨(some 162), none, .nilck (.tmp 154)⟩] (
 .done)
 (.stop))))
 (.stop))
 (.stop)))))))))))))
 (.reg [⟨(some 164), none, .bin .add (.tmp 130) (.lit (.int .i64 1))⟩,
 ⟨(some 130), none, .mov (.tmp 164)⟩])))))))
 (.seq (.reg [⟨(some 165), none, .mov (.tmp 9)⟩,
 ⟨(some 4), none, .mov (.tmp 165)⟩])
 (.ret))))))))
theorem k31 : FnC Tryz.prog 31 166 [] [] [.tmp 4] c31 2 := ⟨Tryz.f31, _, Tryz.func31, rfl, by decide, rfl, by decide, by kernel_rfl, by kernel_rfl⟩
end Go.Proofs.YtnmmhkkmejbckaaGreatDoor

/- The small functions of watch. -/
namespace Go.Proofs.YtnmmhkkmejbckaaGreatDoor
open Go Go.Ab

/-- A refusal of watch's. -/
def stp1 (e : Int) : T := .iface 101 (.agg [vi e])
abbrev mustO (is : Bool) (e : Int) : Out := if is then .ret (.tup []) else .pan (stp1 e)
theorem within_ok (n lo hi : Int) : ACall Tryz.prog 72 [.t (vi n), .t (vi lo), .t (vi hi)] [] (ret (vb (wI n lo hi))) := by
  refine ACall.walk k72 ?_
  unfold c72
  simp only [go_sem, Nat.reduceEqDiff, Nat.reduceAdd]
  refine BrL.mk (fun h => ?_) (fun h => ?_)
  all_goals simp only [h, go_sem, Nat.reduceEqDiff]
  all_goals refine finL_ret [] ⟨rfl, rfl, rfl, rfl, _, rfl, ret_mk ?_⟩
  all_goals simp at h
  all_goals simp [wI, h]
  omega
theorem isMinute_ok (n : Int) : ACall Tryz.prog 33 [.t (vi n)] [] (ret (vb (wI n 0 1440))) := by
  have h := within_ok n 0 1440
  refine ACall.walk k33 ?_
  unfold c33
  simp only [go_sem, Nat.reduceEqDiff]
  refine ACallL.quiet1 h rfl rfl rfl ?_
  simp only [go_sem, Nat.reduceEqDiff]
  exact finL_ret [] ⟨rfl, rfl, rfl, rfl, _, rfl, ret_mk rfl⟩
def Wa.isO (w : Wa) (i : Int) : Bool := wI i 0 (w.os.length - 1)
def Wa.isF (w : Wa) (i : Int) : Bool := wI i 0 (w.fs.length - 1)
/-- What machines can hold. -/
structure Lens (w : Wa) : Prop where
  o : w.os.length < 9223372036854775808
  f : w.fs.length < 9223372036854775808
theorem isOwner_ok (w : Wa) (n : Int) (hL : Lens w) : ACall Tryz.prog 32 [.t (tWa w), .t (vi n)] [] (ret (vb (w.isO n))) := by
  have hLo := hL.o
  have h := within_ok n 0 ((w.os.length : Int) - 1)
  have e1 : IntKind.i64.wrap ((w.os.length : Int) - 1) = (w.os.length : Int) - 1 := wrap_id (by omega) (by omega)
  refine ACall.walk k32 ?_
  unfold c32 tWa wa2
  simp only [go_sem, Nat.reduceEqDiff, Nat.reduceAdd, Nat.reduceLeDiff, List.length_map, e1]
  refine ACallL.quiet1 h rfl rfl rfl ?_
  simp only [go_sem, Nat.reduceEqDiff]
  exact finL_ret [] ⟨rfl, rfl, rfl, rfl, _, rfl, ret_mk rfl⟩
theorem isFind_ok (w : Wa) (n : Int) (hL : Lens w) : ACall Tryz.prog 43 [.t (tWa w), .t (vi n)] [] (ret (vb (w.isF n))) := by
  have hLo := hL.f
  have h := within_ok n 0 ((w.fs.length : Int) - 1)
  have e1 : IntKind.i64.wrap ((w.fs.length : Int) - 1) = (w.fs.length : Int) - 1 := wrap_id (by omega) (by omega)
  refine ACall.walk k43 ?_
  unfold c43 tWa wa2
  simp only [go_sem, Nat.reduceEqDiff, Nat.reduceAdd, List.length_map, e1]
  refine ACallL.quiet1 h rfl rfl rfl ?_
  simp only [go_sem, Nat.reduceEqDiff]
  exact finL_ret [] ⟨rfl, rfl, rfl, rfl, _, rfl, ret_mk rfl⟩
theorem must_ok (is : Bool) (e : Int) : ACall Tryz.prog 34 [.t (vb is), .t (vi e)] [] (res (mustO is e)) := by
  refine ACall.walk k34 ?_
  unfold c34
  cases is
  all_goals simp only [go_sem, Nat.reduceEqDiff, Bool.not_true, Bool.not_false]
  · exact finL_pan [] ⟨rfl, rfl, rfl, rfl, res_mk rfl⟩
  · exact finL_ret [] ⟨rfl, rfl, rfl, rfl, _, rfl, res_mk (by simp [E.gc])⟩
theorem stopped_pan (e : Int) (x : T) : ACall Tryz.prog 30 [.t (stp1 e), .ptr 0 0] [.cells [.t x]] (fun o σ' => o = .ret (.tup []) ∧ σ' = [.cells [.t (vi e)]]) := by
  refine ACall.walk k30 ?_
  unfold c30 stp1
  simp only [go_sem, Nat.reduceEqDiff, Bool.not_true, undef]
  exact finL_ret [0] ⟨rfl, rfl, rfl, rfl, _, rfl, by simp [E.gc], rfl⟩
theorem stopped_none (x : T) : ACall Tryz.prog 30 [.t (.lit .nilIface), .ptr 0 0] [.cells [.t x]] (fun o σ' => o = .ret (.tup []) ∧ σ' = [.cells [.t x]]) := by
  refine ACall.walk k30 ?_
  unfold c30
  simp only [go_sem, Nat.reduceEqDiff, Bool.not_false]
  exact finL_ret [0] ⟨rfl, rfl, rfl, rfl, _, rfl, by simp [E.gc], rfl⟩

theorem hours_ok (n : Int) (hn : -100000 ≤ n ∧ n ≤ 100000) : ACall Tryz.prog 75 [.t (vi n)] [] (ret (vi (n / 60))) := by
  have e0 : (60 : Int) = 0 ↔ False := by decide
  have hq : n.tdiv 60 = if n.tmod 60 < 0 then n / 60 + 1 else n / 60 := by
    have h1 := Int.tmod_add_mul_tdiv n 60
    have h2 := Int.emod_add_mul_ediv n 60
    have h3 := Int.emod_nonneg n (show (60 : Int) ≠ 0 by decide)
    have h4 := Int.emod_lt_of_pos n (show (0 : Int) < 60 by decide)
    have h5 := Int.tmod_lt_of_pos n (show (0 : Int) < 60 by decide)
    have h6 : -60 < n.tmod 60 := by
      have := Int.neg_one_mul 60
      have h7 := Int.tmod_lt_of_pos (-n) (show (0 : Int) < 60 by decide)
      rw [Int.neg_tmod] at h7
      omega
    have h8 : 0 ≤ n → 0 ≤ n.tmod 60 := fun h => Int.tmod_nonneg 60 h
    have h9 : n ≤ 0 → n.tmod 60 ≤ 0 := fun h => by
      have := Int.tmod_nonneg 60 (show 0 ≤ -n by omega)
      rw [Int.neg_tmod] at this
      omega
    generalize n.tmod 60 = a at *
    generalize n.tdiv 60 = b at *
    generalize n / 60 = c at *
    generalize n % 60 = d at *
    split <;> omega
  have hb : -1700 ≤ n / 60 ∧ n / 60 ≤ 1700 := by omega
  refine ACall.walk k75 ?_
  unfold c75
  have w1 : IntKind.i64.wrap (n.tdiv 60) = n.tdiv 60 := wrap_id (by split at hq <;> omega) (by split at hq <;> omega)
  cases h : decide (n.tmod 60 < 0)
  · have h' := of_decide_eq_false h
    rw [if_neg h'] at hq
    simp only [go_sem, Nat.reduceEqDiff, Int.reduceEq, w1, h]
    exact finL_ret [] ⟨rfl, rfl, rfl, rfl, _, rfl, ret_mk (by rw [hq])⟩
  · have h' := of_decide_eq_true h
    rw [if_pos h'] at hq
    have w2 : IntKind.i64.wrap (n.tdiv 60 - 1) = n / 60 := by rw [wrap_id (by omega) (by omega)]; omega
    simp only [go_sem, Nat.reduceEqDiff, Int.reduceEq, w1, h, w2]
    exact finL_ret [] ⟨rfl, rfl, rfl, rfl, _, rfl, ret_mk rfl⟩
theorem on_ok (h m : Int) (hh : -100000 ≤ h + m ∧ h + m ≤ 100000) : ACall Tryz.prog 73 [.t (vi h), .t (vi m)] [] (ret (vi ((h + m) % 720))) := by
  have e1 : ((h + m).tmod 720 + 720).tmod 720 = (h + m) % 720 := by
    have h1 := Int.tmod_add_mul_tdiv (h + m) 720
    have h2 : -720 < (h + m).tmod 720 := by
      have h7 := Int.tmod_lt_of_pos (-(h + m)) (show (0 : Int) < 720 by decide)
      rw [Int.neg_tmod] at h7
      omega
    rw [Int.tmod_eq_emod_of_nonneg (by omega)]
    generalize (h + m).tmod 720 = a at *
    generalize (h + m).tdiv 720 = b at *
    omega
  have h3 : -720 < (h + m).tmod 720 ∧ (h + m).tmod 720 < 720 := by
    have h7 := Int.tmod_lt_of_pos (-(h + m)) (show (0 : Int) < 720 by decide)
    rw [Int.neg_tmod] at h7
    exact ⟨by omega, Int.tmod_lt_of_pos (h + m) (by decide)⟩
  have w1 : IntKind.i64.wrap (h + m) = h + m := wrap_id (by omega) (by omega)
  have w2 : IntKind.i64.wrap ((h + m).tmod 720 + 720) = (h + m).tmod 720 + 720 := wrap_id (by omega) (by omega)
  refine ACall.walk k73 ?_
  unfold c73
  simp only [go_sem, Nat.reduceEqDiff, Int.reduceEq, w1, w2, e1]
  exact finL_ret [] ⟨rfl, rfl, rfl, rfl, _, rfl, ret_mk rfl⟩
theorem in_ok (h lo hi : Int) : ACall Tryz.prog 125 [.t (vi h), .t (tSp lo hi)] [] (ret (vb (wI h lo hi))) := by
  have hw := within_ok h lo hi
  refine ACall.walk k125 ?_
  unfold c125 tSp
  simp only [go_sem, Nat.reduceEqDiff, Nat.reduceAdd, Nat.reduceLeDiff]
  refine ACallL.quiet1 hw rfl rfl rfl ?_
  simp only [go_sem, Nat.reduceEqDiff]
  exact finL_ret [] ⟨rfl, rfl, rfl, rfl, _, rfl, ret_mk rfl⟩
theorem foundOf_ok (f : Fi) : ACall Tryz.prog 48 [.t (tFi f)] [] (ret (.iface (if f.stopped then 111 else 109) (tFi f))) := by
  refine ACall.walk k48 ?_
  unfold c48 tFi
  obtain ⟨a, b, c, d, s⟩ := f
  cases s
  · simp only [go_sem, Nat.reduceEqDiff, Nat.reduceAdd]
    exact finL_ret [] ⟨rfl, rfl, rfl, rfl, _, rfl, ret_mk rfl⟩
  · simp only [go_sem, Nat.reduceEqDiff, Nat.reduceAdd]
    exact finL_ret [] ⟨rfl, rfl, rfl, rfl, _, rfl, ret_mk rfl⟩

/-! ### What a watch shows -/
def handsF (o : Ow) (m : Int) : T := .fn (.func 74) [] [.ptr (tOw o) 0, .ptr (.agg [vi m]) 0, .ptr (.agg [.fn (.func 73) [] []]) 0]
theorem hands_ok (o : Ow) (m : Int) : ACall Tryz.prog 35 [.t (tOw o), .t (vi m)] [] (ret (handsF o m)) := by
  refine ACall.walk k35 ?_
  unfold c35 tOw
  simp only [go_sem, Nat.reduceEqDiff, Nat.reduceAdd, undef]
  exact finL_ret [] ⟨rfl, rfl, rfl, rfl, _, rfl, res_mk rfl⟩
abbrev vals (l : List Int) : List Value := l.map (Value.int .i64)
set_option maxRecDepth 8000 in
set_option maxHeartbeats 4000000 in
theorem hands_gen (o : Ow) (ho : o.OK) (m : Int) (hm : 0 ≤ m ∧ m ≤ 1440) : AGen Tryz.prog 74 (([] : List T).map .t ++ .yld :: ([.ptr (tOw o) 0, .ptr (.agg [vi m]) 0, .ptr (.agg [.fn (.func 73) [] []]) 0] : List T).map .t) (vals (handsL o m)) (stp true (vals (handsL o m))) := by
  have hs := ho.set_
  have hg := ho.gain
  refine AGen.walkS k74 ?_
  unfold c74 tOw
  simp only [go_sem, Nat.reduceEqDiff, Nat.reduceAdd]
  cases hc : decide (m ≥ o.set_)
  · have hc' := of_decide_eq_false hc
    have hL : handsL o m = [] := if_neg (by omega)
    rw [hL]
    refine awpL_loopK 0 (fun i s' => s' = { env := [(5, .t (vi o.lo)), (0, .yld), (1, .t (.ptr (tOw o) 0)), (2, .t (.ptr (.agg [vi m]) 0)), (3, .t (.ptr (.agg [.fn (.func 73) [] []]) 0))], σ := [], k := 0 }) ⟨_, Sub.gc [] [5, 0, 1, 2, 3] rfl rfl, rfl⟩ ?_
    rintro i s' hi rfl
    have hlo : decide (o.lo ≤ o.hi) = true := decide_eq_true hg.2.1
    unfold tOw
    simp only [go_sem, Nat.reduceEqDiff, Nat.reduceAdd, beq_self_eq_true, hlo, hc]
    exact finS_ret (.inl rfl) [] ⟨rfl, rfl, _, rfl⟩
  have hc' := of_decide_eq_true hc
  have hL : handsL o m = (rngI o.lo o.hi).map (dialI o m) := if_pos (by omega)
  have hlen : (handsL o m).length = (o.hi + 1 - o.lo).toNat := by rw [hL, List.length_map, rngI_len]
  have hget : ∀ j, j < (o.hi + 1 - o.lo).toNat → (vals (handsL o m))[j]? = some (.int .i64 (dialI o m (o.lo + j))) := fun j hj => by
    rw [hL, List.getElem?_map, List.getElem?_map, rngI_get hj]; rfl
  generalize handsL o m = L at *
  refine awpL_loopK (o.hi + 1 - o.lo).toNat (fun i s' => s' = { env := [(5, .t (vi (o.lo + i))), (0, .yld), (1, .t (.ptr (tOw o) 0)), (2, .t (.ptr (.agg [vi m]) 0)), (3, .t (.ptr (.agg [.fn (.func 73) [] []]) 0))], σ := [], k := i }) ⟨_, Sub.gc [] [5, 0, 1, 2, 3] rfl rfl, ?_⟩ ?_
  · rw [show o.lo + ((0 : Nat) : Int) = o.lo by omega]
    exact St.gc_mk rfl rfl rfl rfl
  rintro i s' hi rfl
  unfold tOw
  cases g : decide (o.lo + (i : Int) ≤ o.hi)
  · have hie : i = (o.hi + 1 - o.lo).toNat := by have := of_decide_eq_false g; omega
    simp only [go_sem, Nat.reduceEqDiff, Nat.reduceAdd, undef, g]
    exact finS_ret (.inl (by rw [List.length_map, hlen, ← hie])) [] ⟨rfl, rfl, _, rfl⟩
  have hil : i < (o.hi + 1 - o.lo).toNat := by have := of_decide_eq_true g; omega
  have hgg : -10 ≤ o.lo + (i : Int) ∧ o.lo + (i : Int) ≤ 10 := by omega
  have hgi := hget i hil
  generalize hgv : o.lo + (i : Int) = gv at *
  have hw : IntKind.i64.wrap (gv + 1) = o.lo + ((i + 1 : Nat) : Int) := by rw [wrap_id (by omega) (by omega)]; omega
  have hd : 0 ≤ m - o.set_ ∧ m - o.set_ ≤ 1440 := by omega
  have w1 : IntKind.i64.wrap (m - o.set_) = m - o.set_ := wrap_id (by omega) (by omega)
  have hdl : dialI o m gv = (m + gv * (m - o.set_) / 60) % 720 := rfl
  generalize hdd : m - o.set_ = d at *
  have hp : -14400 ≤ gv * d ∧ gv * d ≤ 14400 := by
    have h1 := Int.mul_le_mul_of_nonneg_right hgg.1 hd.1
    have h2 := Int.mul_le_mul_of_nonneg_right hgg.2 hd.1
    omega
  have w2 : IntKind.i64.wrap (gv * d) = gv * d := wrap_id (by omega) (by omega)
  generalize hpp : gv * d = p at *
  have hh := hours_ok p (by omega)
  have hpb : -240 ≤ p / 60 ∧ p / 60 ≤ 240 := by omega
  generalize p / 60 = q at *
  have w3 : IntKind.i64.wrap (m + q) = m + q := wrap_id (by omega) (by omega)
  have hon := on_ok 0 (m + q) (by omega)
  rw [Int.zero_add, ← hdl] at hon
  generalize dialI o m gv = D at *
  simp only [go_sem, Nat.reduceEqDiff, Nat.reduceAdd, beq_self_eq_true, g, hc, hdd, hpp, w1, w2]
  refine ACallL.quiet1 hh rfl rfl rfl ?_
  simp only [go_sem, Nat.reduceEqDiff, w3]
  refine ACallL.quiet1 hon rfl rfl rfl ?_
  simp only [go_sem, Nat.reduceEqDiff, Bool.not_true, Bool.not_false, hw]
  exact ⟨hgi, finS_ret (.inr rfl) [] ⟨rfl, rfl, _, rfl⟩, hil, _, Sub.gc [] [5, 0, 1, 2, 3] rfl rfl, St.gc_mk rfl rfl rfl rfl⟩
end Go.Proofs.YtnmmhkkmejbckaaGreatDoor

/- What a watch shows, and the minutes of a find. -/
namespace Go.Proofs.YtnmmhkkmejbckaaGreatDoor
open Go Go.Ab

theorem filter_get {α : Type} {p : α → Bool} {X : List α} {j : Nat} {x : α} (hx : X[j]? = some x) (hp : p x = true) : (X.filter p)[((X.take j).filter p).length]? = some x := by
  obtain ⟨h1, h2⟩ := List.getElem?_eq_some_iff.1 hx
  have hd : X = X.take j ++ x :: X.drop (j + 1) := by rw [← h2, ← List.drop_eq_getElem_cons h1, List.take_append_drop]
  have e : X.filter p = (X.take j).filter p ++ (x :: X.drop (j + 1)).filter p := by rw [← List.filter_append, ← hd]
  rw [e, List.getElem?_append_right (Nat.le_refl _), Nat.sub_self, List.filter_cons, if_pos hp]
  rfl

set_option maxRecDepth 8000 in
set_option maxHeartbeats 4000000 in
theorem shows_ok (o : Ow) (ho : o.OK) (m lo hi : Int) (hm : 0 ≤ m ∧ m ≤ 1440) : ACall Tryz.prog 129 [.t (tOw o), .t (vi m), .t (tSp lo hi)] [] (ret (vb (seen o m lo hi))) := by
  have hh := hands_ok o m
  have hgen := hands_gen o ho m hm
  have hs : seen o m lo hi = (handsL o m).any fun h => wI h lo hi := rfl
  have hin := fun h => in_ok h lo hi
  refine ACall.walk k129 ?_
  unfold c129
  generalize handsL o m = L at *
  unfold tOw at hh ⊢
  unfold tSp at hin ⊢
  simp only [go_sem, Nat.reduceEqDiff, Nat.reduceAdd]
  refine ACallL.fresh1 hh rfl ?_
  simp only [handsF, go_sem]
  refine awpL_rangeS (vals L) (fun i σ => σ = [.cells [.t (vb false)]] ∧ ∀ x ∈ L.take i, wI x lo hi = false)
    (fun e σ => e = .ret ∧ σ = [.cells [.t (vb true)]] ∧ ∃ x ∈ L, wI x lo hi = true) [2] [5, 6]
    [(5, .t (.ptr (.agg [vi lo, vi hi]) 0)), (6, .ptr 0 0)] [] rfl rfl rfl rfl hgen rfl rfl ⟨rfl, by simp⟩ ?_ ?_ ?_
  · rintro l j v σ hv ⟨rfl, hno⟩
    rw [List.getElem?_map] at hv
    cases hx : L[j]? with
    | none => rw [hx] at hv; cases hv
    | some x =>
      rw [hx] at hv
      cases hv
      have htk : L.take (j + 1) = L.take j ++ [x] := by rw [List.take_add_one, hx]; rfl
      have hc := hin x
      simp only [go_sem, Nat.reduceEqDiff, Nat.reduceAdd, T.ofV]
      refine ACallL.quiet1 hc rfl rfl rfl ?_
      cases hp : wI x lo hi
      · simp only [go_sem, Nat.reduceEqDiff]
        refine ⟨[0], rfl, rfl, rfl, ?_⟩
        intro y hy
        rw [htk] at hy
        rcases List.mem_append.1 hy with h | h
        · exact hno y h
        · simp at h; rw [h]; exact hp
      · simp only [go_sem, Nat.reduceEqDiff, undef]
        exact ⟨[0], rfl, rfl, rfl, x, List.mem_of_getElem? hx, hp⟩
  · rintro σ ⟨rfl, hno⟩
    rw [List.length_map, List.take_length] at hno
    have e : L.any (fun h => wI h lo hi) = false := by
      rw [List.any_eq_false]
      intro x hx
      rw [hno x hx]
      decide
    simp only [go_sem, Nat.reduceEqDiff, undef]
    exact finL_ret [] ⟨rfl, rfl, rfl, rfl, _, rfl, ret_mk (by rw [hs, e])⟩
  · rintro e σ ⟨rfl, rfl, x, hx, hp⟩
    have e : L.any (fun h => wI h lo hi) = true := List.any_eq_true.2 ⟨x, hx, hp⟩
    exact finL_ret [] ⟨rfl, rfl, rfl, rfl, _, rfl, ret_mk (by rw [hs, e])⟩

set_option maxRecDepth 8000 in
set_option maxHeartbeats 4000000 in
theorem at_ok (o : Ow) (ho : o.OK) (f : Fi) (hf : f.OK) (m : Int) (hm : 0 ≤ m ∧ m ≤ 1440) : ACall Tryz.prog 126 [.t (tFi f), .t (tOw o), .t (vi m)] [] (ret (vb (atB o f m))) := by
  have hs := shows_ok o ho m f.lo f.hi hm
  have h1 := ho.huts
  have h2 := hf.hut
  have hbit : (bits .and .i64 (o.huts.fdiv (2 ^ (min f.hut.toNat 64))) 1 == 1) = hutB o f := by
    have := bit_eq (a := o.huts.toNat) (i := f.hut.toNat) (by omega)
    rw [show ((o.huts.toNat : Nat) : Int) = o.huts by omega] at this
    exact this
  have hn : (f.hut < 0) = False := eq_false (by omega)
  have ha : atB o f m = (hutB o f && seen o m f.lo f.hi) := rfl
  refine ACall.walk k126 ?_
  unfold c126
  generalize seen o m f.lo f.hi = B at *
  unfold tOw tSp at hs
  unfold tOw tFi
  cases hb : hutB o f
  · rw [hb] at hbit ha
    simp only [go_sem, Nat.reduceEqDiff, Nat.reduceAdd, Nat.reduceLeDiff, undef, hn, IntKind.bits, hbit]
    exact finL_ret [] ⟨rfl, rfl, rfl, rfl, _, rfl, ret_mk (by rw [ha]; rfl)⟩
  · rw [hb] at hbit ha
    simp only [go_sem, Nat.reduceEqDiff, Nat.reduceAdd, Nat.reduceLeDiff, beq_self_eq_true, hn, IntKind.bits, hbit]
    refine ACallL.quiet1 hs rfl rfl rfl ?_
    simp only [go_sem, Nat.reduceEqDiff]
    exact finL_ret [] ⟨rfl, rfl, rfl, rfl, _, rfl, ret_mk (by rw [ha]; rfl)⟩

/-! ### The minutes -/
def goF (o : Ow) (f : Fi) : T := .fn (.func 128) [] [.ptr (tFi f) 0, .ptr (tOw o) 0]
def stF (o : Ow) (f : Fi) : T := .fn (.func 131) [] [.ptr (tOw o) 0, .ptr (tFi f) 0]
theorem goMin_ok (o : Ow) (f : Fi) : ACall Tryz.prog 127 [.t (tFi f), .t (tOw o)] [] (ret (goF o f)) := by
  refine ACall.walk k127 ?_
  unfold c127 tOw tFi
  simp only [go_sem, Nat.reduceEqDiff]
  exact finL_ret [] ⟨rfl, rfl, rfl, rfl, _, rfl, res_mk rfl⟩
theorem stMin_ok (o : Ow) (f : Fi) : ACall Tryz.prog 130 [.t (tFi f), .t (tOw o)] [] (ret (stF o f)) := by
  refine ACall.walk k130 ?_
  unfold c130 tOw tFi
  simp only [go_sem, Nat.reduceEqDiff]
  exact finL_ret [] ⟨rfl, rfl, rfl, rfl, _, rfl, res_mk rfl⟩
set_option maxRecDepth 8000 in
set_option maxHeartbeats 4000000 in
theorem go_gen (o : Ow) (ho : o.OK) (f : Fi) (hf : f.OK) (hs : f.stopped = false) : AGen Tryz.prog 128 (([] : List T).map .t ++ .yld :: ([.ptr (tFi f) 0, .ptr (tOw o) 0] : List T).map .t) (vals (minsL o f)) (stp true (vals (minsL o f))) := by
  have ha := at_ok o ho f hf f.minute hf.minute
  have hL : minsL o f = if atB o f f.minute then [f.minute] else [] := by
    unfold minsL
    rw [hs, if_neg (by decide), List.filter_cons]
    rfl
  refine AGen.walkS k128 ?_
  unfold c128
  rw [hL]
  unfold tOw tFi at ha ⊢
  simp only [go_sem, Nat.reduceEqDiff, Nat.reduceAdd]
  refine ACallL.quiet1 ha rfl rfl rfl ?_
  cases atB o f f.minute
  · simp only [go_sem, Nat.reduceEqDiff]
    exact finS_ret (.inl rfl) [] ⟨rfl, rfl, _, rfl⟩
  · simp only [go_sem, Nat.reduceEqDiff, Nat.reduceAdd]
    exact ⟨by rw [finS_normal]; exact finS_ret (.inr rfl) [] ⟨rfl, rfl, _, rfl⟩, by rw [finS_normal]; exact finS_ret (.inl rfl) [] ⟨rfl, rfl, _, rfl⟩⟩
set_option maxRecDepth 8000 in
set_option maxHeartbeats 4000000 in
theorem st_gen (o : Ow) (ho : o.OK) (f : Fi) (hf : f.OK) (hs : f.stopped = true) : AGen Tryz.prog 131 (([] : List T).map .t ++ .yld :: ([.ptr (tOw o) 0, .ptr (tFi f) 0] : List T).map .t) (vals (minsL o f)) (stp true (vals (minsL o f))) := by
  have ha := fun m hm => at_ok o ho f hf m hm
  have h1 := ho.set_
  have h2 := hf.minute
  have hL : minsL o f = (rngI o.set_ f.minute).filter (atB o f) := by unfold minsL; rw [hs]; rfl
  have htk : ∀ j, j < (f.minute + 1 - o.set_).toNat → ((rngI o.set_ f.minute).take (j + 1)).filter (atB o f) = ((rngI o.set_ f.minute).take j).filter (atB o f) ++ if atB o f (o.set_ + j) then [o.set_ + (j : Int)] else [] := fun j hj => by
    rw [List.take_add_one, rngI_get hj, List.filter_append]
    congr 1
    rw [Option.toList_some, List.filter_cons]
    rfl
  have hget : ∀ j, j < (f.minute + 1 - o.set_).toNat → atB o f (o.set_ + j) = true → (vals (minsL o f))[(((rngI o.set_ f.minute).take j).filter (atB o f)).length]? = some (.int .i64 (o.set_ + j)) := fun j hj hb => by
    rw [hL, List.getElem?_map, filter_get (rngI_get hj) hb]
    rfl
  have hlen : (minsL o f).length = (((rngI o.set_ f.minute).take (f.minute + 1 - o.set_).toNat).filter (atB o f)).length := by
    rw [hL, List.take_of_length_le (by rw [rngI_len]; omega)]
  refine AGen.walkS k131 ?_
  unfold c131
  generalize minsL o f = L at *
  unfold tOw tFi at ha ⊢
  simp only [go_sem, Nat.reduceEqDiff, Nat.reduceAdd]
  refine awpL_loopK (f.minute + 1 - o.set_).toNat (fun i s' => s' = { env := [(4, .t (vi (o.set_ + i))), (0, .yld), (1, .t (.ptr (tOw o) 0)), (2, .t (.ptr (tFi f) 0))], σ := [], k := (((rngI o.set_ f.minute).take i).filter (atB o f)).length }) ⟨_, Sub.gc [] [4, 0, 1, 2] rfl rfl, ?_⟩ ?_
  · rw [show o.set_ + ((0 : Nat) : Int) = o.set_ by omega]
    exact St.gc_mk rfl rfl rfl rfl
  rintro i s' hi rfl
  unfold tOw tFi
  cases g : decide (o.set_ + (i : Int) ≤ f.minute)
  · have hie : i = (f.minute + 1 - o.set_).toNat := by have := of_decide_eq_false g; omega
    simp only [go_sem, Nat.reduceEqDiff, Nat.reduceAdd, g]
    rw [finS_normal]
    exact finS_ret (.inl (by rw [List.length_map, hlen, ← hie])) [] ⟨rfl, rfl, _, rfl⟩
  have hil : i < (f.minute + 1 - o.set_).toNat := by have := of_decide_eq_true g; omega
  have htk' := htk i hil
  have hget' := hget i hil
  have hw : IntKind.i64.wrap (o.set_ + (i : Int) + 1) = o.set_ + ((i + 1 : Nat) : Int) := by rw [wrap_id (by omega) (by omega)]; omega
  have ha' := ha (o.set_ + i) (by omega)
  rw [htk']
  generalize ((rngI o.set_ f.minute).take i).filter (atB o f) = P at *
  simp only [go_sem, Nat.reduceEqDiff, Nat.reduceAdd, g]
  refine ACallL.quiet1 ha' rfl rfl rfl ?_
  cases hb : atB o f (o.set_ + i)
  · simp only [go_sem, Nat.reduceEqDiff, Bool.not_false, hw]
    exact ⟨hil, _, Sub.gc [] [4, 0, 1, 2] rfl rfl, St.gc_mk rfl rfl rfl rfl⟩
  · have hgv := hget' hb
    simp only [go_sem, Nat.reduceEqDiff, Bool.not_true, Bool.not_false, hw]
    refine ⟨hgv, finS_ret (.inr ?_) [] ⟨rfl, rfl, _, rfl⟩, hil, _, Sub.gc [] [4, 0, 1, 2] rfl rfl, ?_⟩
    · rfl
    · rw [List.length_append]
      exact St.gc_mk rfl rfl rfl rfl
end Go.Proofs.YtnmmhkkmejbckaaGreatDoor

/- Watches are opened: valid or not, and whose each find can be by itself. -/
namespace Go.Proofs.YtnmmhkkmejbckaaGreatDoor
open Go Go.Ab

def tNs (l : List Nat) : List T := l.map fun n : Nat => vi n
theorem gc_tNs {kp : List Nat} {σ : List AO} {n : Nat} (l : List Nat) : ((tNs l).map E.t).map (E.gc kp σ (n + 1)) = (tNs l).map E.t := gc_row _
def tTab (w : Wa) : T := .ptr (.agg [.slice 4 (w.os.map tOw), .slice 5 (w.fs.map tFi), .slice 1 (tNs w.fits)]) 0
def opnO (w : Wa) (is : Bool) : Out := if w.ok then (if is then .ret (.t (tTab w)) else .pan (stp1 2)) else .pan (stp1 1)

set_option maxRecDepth 8000 in
theorem union_ok (a b : Nat) (ha : a < 9223372036854775808) (hb : b < 9223372036854775808) : ACall Tryz.prog 60 [.t (.slice 1 [vi a, vi b])] [] (ret (vi ((a ||| b : Nat) : Int))) := by
  refine ACall.walk k60 ?_
  unfold c60
  have hor : bits .or .i64 (a : Int) (b : Int) = ((a ||| b : Nat) : Int) := bits_or ha hb
  have hor0 : bits .or .i64 0 (a : Int) = (a : Int) := by
    have := bits_or (a := 0) (b := a) (by omega) ha
    rw [Nat.zero_or] at this
    exact this
  simp only [go_sem, Nat.reduceEqDiff, Nat.reduceAdd]
  refine awpL_loopK 2 (fun j s => s = { env := [(7, .t (vi j)), (2, .t (vi (if j = 0 then 0 else if j = 1 then (a : Int) else ((a ||| b : Nat) : Int)))), (5, .t (.slice 1 [vi a, vi b])), (6, .t (vi 2))], σ := [] })
    ⟨_, Sub.gc [] [7, 2, 5, 6] rfl rfl, St.gc_mk rfl rfl rfl rfl⟩ ?_
  rintro j s hj rfl
  have h3 : j = 0 ∨ j = 1 ∨ j = 2 := by omega
  rcases h3 with rfl | rfl | rfl
  · simp only [go_sem, Nat.reduceEqDiff, Nat.reduceLT, Int.reduceLT, Int.reduceLE, Int.reduceAdd, decide_true, hor0]
    exact ⟨_, Sub.gc [] [7, 2, 5, 6] rfl rfl, St.gc_mk rfl rfl rfl rfl⟩
  · simp only [go_sem, Nat.reduceEqDiff, Nat.reduceAdd, Nat.reduceLT, Int.reduceToNat, Int.reduceLT, Int.reduceLE, Int.reduceAdd, decide_true, hor]
    exact ⟨_, Sub.gc [] [7, 2, 5, 6] rfl rfl, St.gc_mk rfl rfl rfl rfl⟩
  · simp only [go_sem, Nat.reduceEqDiff, Int.reduceLT, decide_false]
    exact finL_ret [] ⟨rfl, rfl, rfl, rfl, _, rfl, ret_mk rfl⟩

set_option maxRecDepth 8000 in
set_option maxHeartbeats 8000000 in
theorem open_ok (w : Wa) (is : Bool) (hL : Lens w) : ACall Tryz.prog 31 [.t (tWa w), .t (vb is)] [] (res (opnO w is)) := by
  refine ACall.walk k31 ?_
  have hLo := hL.o
  have hLf := hL.f
  have bad : ∀ {σ : List AO} {R : Lz (Out → List AO → Prop)} (e : Int), R.get (.pan (stp1 e)) σ → @ACallL Tryz.prog 34 [.t (vb false), .t (vi e)] σ R := fun e h => ACallL.quiet1 (must_ok false e) rfl rfl rfl h
  have good : ∀ {σ : List AO} {R : Lz (Out → List AO → Prop)} (e : Int), R.get (.ret (.tup [])) σ → @ACallL Tryz.prog 34 [.t (vb true), .t (vi e)] σ R := fun e h => ACallL.quiet1 (must_ok true e) rfl rfl rfl h
  have fail : ∀ {s : St}, w.ok = false → s.df = [] → s.k = 0 → @finL 0 0 ⟨[.tmp 4]⟩ ⟨res (opnO w is)⟩ (.pan (stp1 1)) s := fun h h1 h2 =>
    finL_pan [] ⟨by rw [h1]; rfl, h2, rfl, rfl, res_mk (by unfold opnO; rw [h]; rfl)⟩
  unfold c31
  refine awpL_chop 2 (c1 := ?a1) (c2 := ?a2) (fun s => w.os.length ≤ 5 ∧ w.fs.length ≤ 4 ∧ lk s.env 1 = .t (vb is) ∧ lk s.env 2 = .ptr 0 0 ∧ s.σ = [.cells ((wa2 w).map .t)] ∧ s.df = [] ∧ s.k = 0) ?hc ?_ ?_
  case hc => simp only [chop]; rfl
  · unfold tWa wa2
    cases h1 : decide ((w.os.length : Int) ≤ 5)
    · have h1' := of_decide_eq_false h1
      simp only [go_sem, Nat.reduceEqDiff, Nat.reduceAdd, Nat.reduceLeDiff, undef, List.length_map, h1]
      refine bad 1 ?_
      simp only [go_sem]
      exact fail (by unfold Wa.ok; rw [decide_eq_false (by omega)]; rfl) rfl rfl
    have h1' := of_decide_eq_true h1
    cases h2 : decide ((w.fs.length : Int) ≤ 4)
    · have h2' := of_decide_eq_false h2
      simp only [go_sem, Nat.reduceEqDiff, Nat.reduceAdd, Nat.reduceLeDiff, beq_self_eq_true, List.length_map, h1, h2]
      refine bad 1 ?_
      simp only [go_sem]
      exact fail (by unfold Wa.ok; rw [decide_eq_false (by omega)]; rfl) rfl rfl
    have h2' := of_decide_eq_true h2
    simp only [go_sem, Nat.reduceEqDiff, Nat.reduceAdd, Nat.reduceLeDiff, beq_self_eq_true, List.length_map, h1, h2]
    refine good 1 ?_
    simp only [go_sem, Nat.reduceEqDiff]
    exact ⟨by omega, by omega⟩
  rintro ⟨env, σ, df, k⟩ ⟨ho5, hf4, q1, q2, hσ, hdf, hk⟩
  simp only at q1 q2 hσ hdf hk
  subst hσ hdf hk
  refine awpL_chop 1 (c1 := ?b1) (c2 := ?b2) (fun s => (w.os.all okOw = true) ∧ lk s.env 1 = .t (vb is) ∧ lk s.env 2 = .t (.ptr (tWa w) 0) ∧ s.σ = [] ∧ s.df = [] ∧ s.k = 0) ?hc2 ?_ ?_
  case hc2 => simp only [chop]; rfl
  · unfold wa2
    simp only [go_sem, Nat.reduceEqDiff, Nat.reduceAdd, Nat.reduceLeDiff, q2, List.length_map]
    refine awpL_loopK w.os.length (fun j s => (w.os.take j).all okOw = true ∧ s = { env := [(29, .t (vi j)), (1, .t (vb is)), (2, .t (.ptr (tWa w) 0)), (27, .t (.slice 4 (w.os.map tOw))), (28, .t (vi w.os.length))], σ := [] })
      ⟨_, Sub.gc [] [29, 1, 2, 27, 28] rfl rfl, rfl, ?_⟩ ?_
    · refine St.gc_mk ?_ rfl rfl rfl
      simp only [go_sem, Nat.reduceEqDiff, List.map_cons, List.map_nil, q1, q2]
      rfl
    rintro j s hj ⟨hall, rfl⟩
    have hj0 : ((j : Int) < 0) = False := eq_false (by omega)
    cases g : decide ((j : Int) < (w.os.length : Int))
    · have he : j = w.os.length := by have := of_decide_eq_false g; omega
      subst he
      rw [List.take_length] at hall
      simp only [go_sem, Nat.reduceEqDiff, g]
      exact hall
    have hlt : j < w.os.length := by have := of_decide_eq_true g; omega
    have hx : w.os[j]? = some w.os[j] := List.getElem?_eq_getElem hlt
    have hmem := List.getElem_mem hlt
    have htk : w.os.take (j + 1) = w.os.take j ++ [w.os[j]] := by rw [List.take_add_one, hx]; rfl
    have w1 : IntKind.i64.wrap ((j : Int) + 1) = ((j + 1 : Nat) : Int) := by rw [wrap_id (by omega) (by omega)]; omega
    have hno : okOw w.os[j] = false → w.ok = false := fun h => by
      unfold Wa.ok
      have : w.os.all okOw = false := List.all_eq_false.2 ⟨_, hmem, by rw [h]; simp⟩
      rw [this]; simp
    rw [htk, List.all_append, hall]
    generalize w.os[j] = o at *
    have hok : okOw o = (wI o.set_ 0 1440 && decide (-10 ≤ o.lo ∧ o.lo ≤ o.hi ∧ o.hi ≤ 10 ∧ o.hi - o.lo ≤ 2) && wI o.huts 0 63) := rfl
    have m1 := isMinute_ok o.set_
    have m2 := within_ok o.huts 0 63
    have hto : tOw o = .agg [vi o.set_, vi o.lo, vi o.hi, vi o.huts] := rfl
    simp only [go_sem, Nat.reduceEqDiff, Nat.reduceAdd, Nat.reduceLeDiff, undef, g, hx, hto, List.getElem?_map, Option.map_some]
    refine ACallL.quiet1 m1 rfl rfl rfl ?_
    cases k1 : wI o.set_ 0 1440
    · simp only [go_sem, Nat.reduceEqDiff, Int.reduceNeg, undef]
      refine bad 1 ?_
      simp only [go_sem]
      exact fail (hno (by rw [hok, k1]; rfl)) rfl rfl
    cases k2 : decide (-10 ≤ o.lo)
    · have k2' := of_decide_eq_false k2
      simp only [go_sem, Nat.reduceEqDiff, Nat.reduceAdd, Nat.reduceLeDiff, Int.reduceNeg, undef, beq_self_eq_true, k2]
      refine bad 1 ?_
      simp only [go_sem]
      exact fail (hno (by rw [hok, decide_eq_false (by omega)]; simp)) rfl rfl
    have k2' := of_decide_eq_true k2
    cases k3 : decide (o.lo ≤ o.hi)
    · have k3' := of_decide_eq_false k3
      simp only [go_sem, Nat.reduceEqDiff, Nat.reduceAdd, Nat.reduceLeDiff, Int.reduceNeg, undef, beq_self_eq_true, k2, k3]
      refine bad 1 ?_
      simp only [go_sem]
      exact fail (hno (by rw [hok, decide_eq_false (by omega)]; simp)) rfl rfl
    have k3' := of_decide_eq_true k3
    cases k4 : decide (o.hi ≤ 10)
    · have k4' := of_decide_eq_false k4
      simp only [go_sem, Nat.reduceEqDiff, Nat.reduceAdd, Nat.reduceLeDiff, Int.reduceNeg, undef, beq_self_eq_true, k2, k3, k4]
      refine bad 1 ?_
      simp only [go_sem]
      exact fail (hno (by rw [hok, decide_eq_false (by omega)]; simp)) rfl rfl
    have k4' := of_decide_eq_true k4
    have w2 : IntKind.i64.wrap (o.hi - o.lo) = o.hi - o.lo := wrap_id (by omega) (by omega)
    cases k5 : decide (o.hi - o.lo ≤ 2)
    · have k5' := of_decide_eq_false k5
      simp only [go_sem, Nat.reduceEqDiff, Nat.reduceAdd, Nat.reduceLeDiff, Int.reduceNeg, undef, beq_self_eq_true, k2, k3, k4, w2, k5]
      refine bad 1 ?_
      simp only [go_sem]
      exact fail (hno (by rw [hok, decide_eq_false (by omega)]; simp)) rfl rfl
    have k5' := of_decide_eq_true k5
    simp only [go_sem, Nat.reduceEqDiff, Nat.reduceAdd, Nat.reduceLeDiff, Int.reduceNeg, beq_self_eq_true, k2, k3, k4, w2, k5]
    refine ACallL.quiet1 m2 rfl rfl rfl ?_
    cases k6 : wI o.huts 0 63
    · simp only [go_sem, Nat.reduceEqDiff]
      refine bad 1 ?_
      simp only [go_sem]
      exact fail (hno (by rw [hok, k6]; simp)) rfl rfl
    simp only [go_sem, Nat.reduceEqDiff]
    refine good 1 ?_
    simp only [go_sem, Nat.reduceEqDiff, Bool.true_and, w1]
    refine ⟨hlt, _, Sub.gc [] [29, 1, 2, 27, 28] rfl rfl, ?_, St.gc_mk rfl rfl rfl rfl⟩
    simp only [List.all_cons, List.all_nil, Bool.and_true]
    rw [hok, k1, k6, decide_eq_true ⟨k2', k3', k4', k5'⟩]; rfl
  rintro ⟨env, σ, df, k⟩ ⟨hos, q1, q2, hσ, hdf, hk⟩
  simp only at q1 q2 hσ hdf hk
  subst hσ hdf hk
  refine awpL_chop 1 (c1 := ?d1) (c2 := ?d2) (fun s => (w.fs.all okFi = true) ∧ lk s.env 1 = .t (vb is) ∧ lk s.env 2 = .t (.ptr (tWa w) 0) ∧ s.σ = [] ∧ s.df = [] ∧ s.k = 0) ?hc3 ?_ ?_
  case hc3 => simp only [chop]; rfl
  · unfold tWa wa2 at q2
    simp only [go_sem, Nat.reduceEqDiff, Nat.reduceAdd, q2, List.length_map]
    refine awpL_loopK w.fs.length (fun j s => (w.fs.take j).all okFi = true ∧ s = { env := [(77, .t (vi j)), (1, .t (vb is)), (2, .t (.ptr (tWa w) 0)), (75, .t (.slice 5 (w.fs.map tFi))), (76, .t (vi w.fs.length))], σ := [] })
      ⟨_, Sub.gc [] [77, 1, 2, 75, 76] rfl rfl, rfl, ?_⟩ ?_
    · refine St.gc_mk ?_ rfl rfl rfl
      simp only [go_sem, Nat.reduceEqDiff, List.map_cons, List.map_nil, q1, q2]
      rfl
    rintro j s hj ⟨hall, rfl⟩
    have hj0 : ((j : Int) < 0) = False := eq_false (by omega)
    cases g : decide ((j : Int) < (w.fs.length : Int))
    · have he : j = w.fs.length := by have := of_decide_eq_false g; omega
      subst he
      rw [List.take_length] at hall
      simp only [go_sem, Nat.reduceEqDiff, g]
      exact hall
    have hlt : j < w.fs.length := by have := of_decide_eq_true g; omega
    have hx : w.fs[j]? = some w.fs[j] := List.getElem?_eq_getElem hlt
    have hmem := List.getElem_mem hlt
    have htk : w.fs.take (j + 1) = w.fs.take j ++ [w.fs[j]] := by rw [List.take_add_one, hx]; rfl
    have w1 : IntKind.i64.wrap ((j : Int) + 1) = ((j + 1 : Nat) : Int) := by rw [wrap_id (by omega) (by omega)]; omega
    have hno : okFi w.fs[j] = false → w.ok = false := fun h => by
      unfold Wa.ok
      have : w.fs.all okFi = false := List.all_eq_false.2 ⟨_, hmem, by rw [h]; simp⟩
      rw [this]; simp
    rw [htk, List.all_append, hall]
    generalize w.fs[j] = f at *
    have hok : okFi f = (wI f.hut 0 5 && wI f.minute 0 1440 && decide (0 ≤ f.lo ∧ f.lo ≤ f.hi ∧ f.hi < 720 ∧ f.hi - f.lo ≤ 30)) := rfl
    have m1 := within_ok f.hut 0 5
    have m2 := isMinute_ok f.minute
    have hto : tFi f = .agg [vi f.hut, vi f.minute, vi f.lo, vi f.hi, vb f.stopped] := rfl
    simp only [go_sem, Nat.reduceEqDiff, Nat.reduceAdd, Nat.reduceLeDiff, undef, g, hx, hto, List.getElem?_map, Option.map_some]
    refine ACallL.quiet1 m1 rfl rfl rfl ?_
    cases k1 : wI f.hut 0 5
    · simp only [go_sem, Nat.reduceEqDiff, undef]
      refine bad 1 ?_
      simp only [go_sem]
      exact fail (hno (by rw [hok, k1]; rfl)) rfl rfl
    simp only [go_sem, Nat.reduceEqDiff, Nat.reduceAdd, Nat.reduceLeDiff, beq_self_eq_true]
    refine ACallL.quiet1 m2 rfl rfl rfl ?_
    cases k0 : wI f.minute 0 1440
    · simp only [go_sem, Nat.reduceEqDiff, undef]
      refine bad 1 ?_
      simp only [go_sem]
      exact fail (hno (by rw [hok, k0]; simp)) rfl rfl
    cases k2 : decide (0 ≤ f.lo)
    · have k2' := of_decide_eq_false k2
      simp only [go_sem, Nat.reduceEqDiff, Nat.reduceAdd, Nat.reduceLeDiff, undef, beq_self_eq_true, k2]
      refine bad 1 ?_
      simp only [go_sem]
      exact fail (hno (by rw [hok, decide_eq_false (by omega)]; simp)) rfl rfl
    have k2' := of_decide_eq_true k2
    cases k3 : decide (f.lo ≤ f.hi)
    · have k3' := of_decide_eq_false k3
      simp only [go_sem, Nat.reduceEqDiff, Nat.reduceAdd, Nat.reduceLeDiff, undef, beq_self_eq_true, k2, k3]
      refine bad 1 ?_
      simp only [go_sem]
      exact fail (hno (by rw [hok, decide_eq_false (by omega)]; simp)) rfl rfl
    have k3' := of_decide_eq_true k3
    cases k4 : decide (f.hi < 720)
    · have k4' := of_decide_eq_false k4
      simp only [go_sem, Nat.reduceEqDiff, Nat.reduceAdd, Nat.reduceLeDiff, undef, beq_self_eq_true, k2, k3, k4]
      refine bad 1 ?_
      simp only [go_sem]
      exact fail (hno (by rw [hok, decide_eq_false (by omega)]; simp)) rfl rfl
    have k4' := of_decide_eq_true k4
    have w2 : IntKind.i64.wrap (f.hi - f.lo) = f.hi - f.lo := wrap_id (by omega) (by omega)
    cases k5 : decide (f.hi - f.lo ≤ 30)
    · have k5' := of_decide_eq_false k5
      simp only [go_sem, Nat.reduceEqDiff, Nat.reduceAdd, Nat.reduceLeDiff, beq_self_eq_true, k2, k3, k4, w2, k5]
      refine bad 1 ?_
      simp only [go_sem]
      exact fail (hno (by rw [hok, decide_eq_false (by omega)]; simp)) rfl rfl
    have k5' := of_decide_eq_true k5
    simp only [go_sem, Nat.reduceEqDiff, Nat.reduceAdd, Nat.reduceLeDiff, beq_self_eq_true, k2, k3, k4, w2, k5]
    refine good 1 ?_
    simp only [go_sem, Nat.reduceEqDiff, Bool.true_and, w1]
    refine ⟨hlt, _, Sub.gc [] [77, 1, 2, 75, 76] rfl rfl, ?_, St.gc_mk rfl rfl rfl rfl⟩
    simp only [List.all_cons, List.all_nil, Bool.and_true]
    rw [hok, k1, k0, decide_eq_true ⟨k2', k3', k4', k5'⟩]; rfl
  rintro ⟨env, σ, df, k⟩ ⟨hfs, q1, q2, hσ, hdf, hk⟩
  simp only at q1 q2 hσ hdf hk
  subst hσ hdf hk
  have hok : w.ok = true := by unfold Wa.ok; rw [hos, hfs, decide_eq_true ⟨ho5, hf4⟩]; rfl
  have hw := (w.ok_iff).1 hok
  cases is
  · simp only [go_sem, q1]
    refine bad 2 ?_
    simp only [go_sem]
    exact finL_pan [] ⟨rfl, rfl, rfl, rfl, res_mk (by unfold opnO; rw [hok]; rfl)⟩
  simp only [go_sem, q1]
  refine good 2 ?_
  unfold tWa wa2 at q2
  simp only [go_sem, Nat.reduceEqDiff, Nat.reduceAdd, Nat.reduceLeDiff, q2, List.length_map]
  refine awpL_loopK w.fs.length (fun j s => ∃ d, s = { env := [(130, .t (vi j)), (2, .t (.ptr (tWa w) 0)), (9, .ptr 0 0), (128, .t (.slice 5 (w.fs.map tFi))), (129, .t (vi w.fs.length))], σ := [.cells [.t (.slice 4 (w.os.map tOw)), .t (.slice 5 (w.fs.map tFi)), .loc 1 j], .row 1 ((tNs (w.fits.take j)).map .t)], df := List.replicate d .mark })
    ⟨_, (Sub.ghostC 0 2 1 (by decide) rfl rfl).trans (Sub.gc [0, 1] [130, 2, 9, 128, 129] rfl rfl), 0, ?_⟩ ?_
  · refine St.gc_mk ?_ rfl rfl rfl
    simp only [go_sem, Nat.reduceEqDiff, List.map_cons, List.map_nil, q2]
    rfl
  rintro j s hj ⟨d, rfl⟩
  unfold tWa wa2
  have hj0 : ((j : Int) < 0) = False := eq_false (by omega)
  have hlf : w.fits.length = w.fs.length := by unfold Wa.fits; simp
  cases g : decide ((j : Int) < (w.fs.length : Int))
  · have he : j = w.fs.length := by have := of_decide_eq_false g; omega
    subst he
    have ht : w.fits.take w.fs.length = w.fits := List.take_of_length_le (by omega)
    simp only [go_sem, Nat.reduceEqDiff, g, ht]
    refine finL_ret [] ⟨by simp, rfl, rfl, rfl, _, rfl, res_mk ?_⟩
    unfold opnO
    rw [hok, if_pos rfl, if_pos rfl]
    refine congrArg Out.ret ?_
    have key : ∀ σ : List AO, σ[1]? = some (.row 1 ((tNs w.fits).map .t)) → E.gc [] σ 11 (.loc 1 w.fs.length) = .t (.slice 1 (tNs w.fits)) := fun σ h => gc_loc rfl h (by unfold tNs; rw [List.length_map, hlf])
    have hgc : ∀ σ : List AO, σ[0]? = some (.cells [.t (.slice 4 (w.os.map tOw)), .t (.slice 5 (w.fs.map tFi)), .loc 1 w.fs.length]) → σ[1]? = some (.row 1 ((tNs w.fits).map .t)) → E.gc [] σ 12 (.ptr 0 0) = .t (tTab w) := by
      intro σ h0 h1
      rw [E.gc]
      simp only [pos?, h0, List.map_cons, List.map_nil, key σ h1]
      rfl
    exact hgc _ rfl rfl
  have hlt : j < w.fs.length := by have := of_decide_eq_true g; omega
  have hx : w.fs[j]? = some w.fs[j] := List.getElem?_eq_getElem hlt
  have hf := hw.fs _ (List.getElem_mem hlt)
  have hft : w.fits.take (j + 1) = w.fits.take j ++ [fitN w.os w.fs[j]] := by
    rw [List.take_add_one]
    unfold Wa.fits
    rw [List.getElem?_map, hx]; rfl
  have hlj : (w.fits.take j).length = j := by rw [List.length_take]; omega
  rw [hft]
  generalize w.fits.take j = P at *
  generalize w.fs[j] = f at *
  have hto : tFi f = .agg [vi f.hut, vi f.minute, vi f.lo, vi f.hi, vb f.stopped] := rfl
  have w1 : IntKind.i64.wrap ((j : Int) + 1) = ((j + 1 : Nat) : Int) := by rw [wrap_id (by omega) (by omega)]; omega
  have hfN : fitN w.os f = maskW (fitP w.os f) w.os.length := rfl
  rw [hfN]
  have hpat := fun {i} {o} => @fitP_at w.os f i o
  generalize fitP w.os f = p at *
  have hpm : ∀ i, maskW p i < 2 ^ i := maskW_lt p
  have hp5 : ∀ i, i ≤ 5 → maskW p i < 64 := fun i hi => by
    have := hpm i
    have : 2 ^ i ≤ 2 ^ 5 := Nat.pow_le_pow_right (by omega) hi
    omega
  simp only [go_sem, Nat.reduceEqDiff, Nat.reduceAdd, undef, g, hx, hto, List.getElem?_map, Option.map_some, List.length_map]
  refine awpL_loopK w.os.length (fun i s => ∃ d, s = { env := [(137, .t (vi i)), (2, .t (.ptr (tWa w) 0)), (9, .ptr 0 0), (11, .t (.ptr (tFi f) 0)), (12, .ptr 2 0), (128, .t (.slice 5 (w.fs.map tFi))), (129, .t (vi w.fs.length)), (130, .t (vi j)), (135, .t (.slice 4 (w.os.map tOw))), (136, .t (vi w.os.length))], σ := [.cells [.t (.slice 4 (w.os.map tOw)), .t (.slice 5 (w.fs.map tFi)), .loc 1 j], .row 1 ((tNs P).map .t), .cells [.t (vi (maskW p i : Nat))]], df := List.replicate d .mark })
    ⟨_, Sub.gc [0, 1, 3] [137, 2, 9, 11, 12, 128, 129, 130, 135, 136] rfl rfl, d, ?_⟩ ?_
  · refine St.gc_mk rfl ?_ (by simp [Df.gc]) rfl
    unfold σgc
    simp only [List.map_cons, List.map_nil, List.getD_cons_zero, List.getD_cons_succ, AO.gc, gc_tNs]
    rfl
  clear d
  rintro i s hi ⟨d, rfl⟩
  unfold tWa wa2
  have hi0 : ((i : Int) < 0) = False := eq_false (by omega)
  cases g2 : decide ((i : Int) < (w.os.length : Int))
  · have he : i = w.os.length := by have := of_decide_eq_false g2; omega
    subst he
    have x1 : (j + 1 ≤ maxLen) = True := eq_true (by unfold maxLen; omega)
    have x2 : ((j + 1) * 8 ≤ 140737488355328) = True := eq_true (by omega)
    have hlP : (tNs P).length = j := by unfold tNs; rw [List.length_map]; exact hlj
    have happ : (tNs P).map E.t ++ [E.t (vi (maskW p w.os.length : Nat))] = (tNs (P ++ [maskW p w.os.length])).map E.t := by simp [tNs]
    simp only [go_sem, Nat.reduceEqDiff, Nat.reduceAdd, Nat.reduceLT, undef, hto, g2, x1, x2, hlP, List.length_map, happ, w1]
    exact ⟨hlt, _, Sub.gc [0, 1] [130, 2, 9, 128, 129] rfl rfl, d, St.gc_mk rfl (by unfold σgc; simp only [List.map_cons, List.map_nil, List.getD_cons_zero, List.getD_cons_succ, AO.gc, gc_tNs]; rfl) (by simp [Df.gc]) rfl⟩
  have hil : i < w.os.length := by have := of_decide_eq_true g2; omega
  have hxo : w.os[i]? = some w.os[i] := List.getElem?_eq_getElem hil
  have ho := hw.os _ (List.getElem_mem hil)
  have hpi : p i = fitB w.os[i] f := hpat hxo
  have hms : maskW p (i + 1) = maskW p i ||| if p i then 2 ^ i else 0 := rfl
  have hmi := hp5 i (by omega)
  rw [hms, hpi]
  generalize w.os[i] = o at *
  generalize maskW p i = S at *
  have w2 : IntKind.i64.wrap ((i : Int) + 1) = ((i + 1 : Nat) : Int) := by rw [wrap_id (by omega) (by omega)]; omega
  have hshl : IntKind.i64.wrap (1 * 2 ^ (min i 64)) = ((2 ^ i : Nat) : Int) := shl_one (by omega)
  have hpw : 2 ^ i ≤ 2 ^ 5 := Nat.pow_le_pow_right (by omega) (by omega)
  have hun := union_ok S (2 ^ i) (by omega) (by omega)
  have hoo : tOw o = .agg [vi o.set_, vi o.lo, vi o.hi, vi o.huts] := rfl
  have hfo := foundOf_ok f
  have hgo := goMin_ok o f
  have hst := stMin_ok o f
  have hgg := go_gen o ho f hf
  have hsg := st_gen o ho f hf
  have hfit : fitB o f = !(minsL o f).isEmpty := rfl
  rw [hto] at hfo hgo hst
  rw [hoo] at hgo hst
  generalize minsL o f = L at *
  have hm1 : mfind [(109, 127), (111, 130)] 109 = some 127 := rfl
  have hm2 : mfind [(109, 127), (111, 130)] 111 = some 130 := rfl
  have hi00 : ((i : Int) < 0) = False := eq_false (by omega)
  cases hs : f.stopped
  · have hgen := hgg hs
    rw [hs] at hfo hgo hst
    simp only [Bool.false_eq_true, if_false] at hfo
    unfold tFi tOw at hgen
    rw [hs] at hgen
    simp only [go_sem, Nat.reduceEqDiff, Nat.reduceAdd, undef, hto, g2, hxo, hoo, hs, List.getElem?_map, Option.map_some]
    refine ACallL.quiet1 hfo rfl rfl rfl ?_
    simp only [go_sem, Nat.reduceEqDiff, Nat.reduceAdd, hm1]
    refine ACallL.fresh1 hgo rfl ?_
    simp only [goF, hto, hoo, hs, go_sem, Nat.reduceEqDiff, Nat.reduceAdd]
    refine awpL_rangeS (vals L) (fun n σ => n = 0 ∧ σ = [.cells [.t (.slice 4 (w.os.map tOw)), .t (.slice 5 (w.fs.map tFi)), .loc 1 j], .row 1 ((tNs P).map .t), .cells [.t (vi (S : Nat))], .cells [.t (vi i)]])
      (fun e σ => e = .exit 8 ∧ L ≠ [] ∧ σ = [.cells [.t (.slice 4 (w.os.map tOw)), .t (.slice 5 (w.fs.map tFi)), .loc 1 j], .row 1 ((tNs P).map .t), .cells [.t (vi ((S ||| 2 ^ i : Nat) : Int))], .cells [.t (vi i)]]) [0, 1, 2, 3] [2, 9, 11, 12, 13, 128, 129, 130, 135, 136, 137]
      [(2, .t (.ptr (tWa w) 0)), (9, .ptr 0 0), (11, .t (.ptr (.agg [vi f.hut, vi f.minute, vi f.lo, vi f.hi, vb false]) 0)), (12, .ptr 2 0), (13, .ptr 3 0), (128, .t (.slice 5 (w.fs.map tFi))), (129, .t (vi w.fs.length)), (130, .t (vi j)), (135, .t (.slice 4 (w.os.map tOw))), (136, .t (vi w.os.length)), (137, .t (vi i))] (List.replicate d .mark) ?_ (by simp [St.gc, Df.gc]) rfl rfl hgen rfl rfl ⟨rfl, ?_⟩ ?_ ?_ ?_
    · rfl
    · unfold σgc
      simp only [List.map_cons, List.map_nil, List.getD_cons_zero, List.getD_cons_succ, AO.gc, gc_tNs]
      rfl
    · rintro l n v σ hv ⟨rfl, rfl⟩
      have hne : L ≠ [] := fun e => by rw [e] at hv; cases hv
      simp only [go_sem, Nat.reduceEqDiff, Nat.reduceAdd, Nat.reduceLT, hshl, hi00]
      refine ACallL.quiet1 hun rfl ?_ rfl ?_
      · rfl
      simp only [go_sem, Nat.reduceEqDiff, Nat.reduceAdd, undef]
      refine ⟨[0, 1, 2, 3], rfl, rfl, hne, ?_⟩
      unfold σgc
      simp only [List.map_cons, List.map_nil, List.getD_cons_zero, List.getD_cons_succ, AO.gc, gc_tNs]
      rfl
    · rintro σ ⟨hn, rfl⟩
      have hL0 : L = [] := by cases L with
        | nil => rfl
        | cons _ _ => simp at hn
      have hfb : fitB o f = false := by rw [hfit, hL0]; rfl
      rw [hfb, if_neg (by decide), Nat.or_zero]
      simp only [go_sem, Nat.reduceEqDiff, w2]
      exact ⟨hil, _, Sub.gc [0, 1, 2] [137, 2, 9, 11, 12, 128, 129, 130, 135, 136] rfl rfl, d + 1, St.gc_mk (by rw [hto, hs]; rfl) (by unfold σgc; simp only [List.map_cons, List.map_nil, List.getD_cons_zero, List.getD_cons_succ, AO.gc, gc_tNs]; rfl) (by simp [Df.gc, List.replicate_succ]) rfl⟩
    · rintro e σ ⟨rfl, hne, rfl⟩
      have hfb : fitB o f = true := by
        rw [hfit]
        cases L with
        | nil => exact absurd rfl hne
        | cons _ _ => rfl
      rw [hfb, if_pos rfl]
      simp only [go_sem, Nat.reduceEqDiff, Nat.reduceAdd, Nat.reduceLT, w2]
      exact ⟨hil, _, Sub.gc [0, 1, 2] [137, 2, 9, 11, 12, 128, 129, 130, 135, 136] rfl rfl, d + 1, St.gc_mk (by rw [hto, hs]; rfl) (by unfold σgc; simp only [List.map_cons, List.map_nil, List.getD_cons_zero, List.getD_cons_succ, AO.gc, gc_tNs]; rfl) (by simp [Df.gc, List.replicate_succ]) rfl⟩
  · have hgen := hsg hs
    rw [hs] at hfo hgo hst
    simp only [if_true] at hfo
    unfold tFi tOw at hgen
    rw [hs] at hgen
    simp only [go_sem, Nat.reduceEqDiff, Nat.reduceAdd, undef, hto, g2, hxo, hoo, hs, List.getElem?_map, Option.map_some]
    refine ACallL.quiet1 hfo rfl rfl rfl ?_
    simp only [go_sem, Nat.reduceEqDiff, Nat.reduceAdd, hm2]
    refine ACallL.fresh1 hst rfl ?_
    simp only [stF, hto, hoo, hs, go_sem, Nat.reduceEqDiff, Nat.reduceAdd]
    refine awpL_rangeS (vals L) (fun n σ => n = 0 ∧ σ = [.cells [.t (.slice 4 (w.os.map tOw)), .t (.slice 5 (w.fs.map tFi)), .loc 1 j], .row 1 ((tNs P).map .t), .cells [.t (vi (S : Nat))], .cells [.t (vi i)]])
      (fun e σ => e = .exit 8 ∧ L ≠ [] ∧ σ = [.cells [.t (.slice 4 (w.os.map tOw)), .t (.slice 5 (w.fs.map tFi)), .loc 1 j], .row 1 ((tNs P).map .t), .cells [.t (vi ((S ||| 2 ^ i : Nat) : Int))], .cells [.t (vi i)]]) [0, 1, 2, 3] [2, 9, 11, 12, 13, 128, 129, 130, 135, 136, 137]
      [(2, .t (.ptr (tWa w) 0)), (9, .ptr 0 0), (11, .t (.ptr (.agg [vi f.hut, vi f.minute, vi f.lo, vi f.hi, vb true]) 0)), (12, .ptr 2 0), (13, .ptr 3 0), (128, .t (.slice 5 (w.fs.map tFi))), (129, .t (vi w.fs.length)), (130, .t (vi j)), (135, .t (.slice 4 (w.os.map tOw))), (136, .t (vi w.os.length)), (137, .t (vi i))] (List.replicate d .mark) ?_ (by simp [St.gc, Df.gc]) rfl rfl hgen rfl rfl ⟨rfl, ?_⟩ ?_ ?_ ?_
    · rfl
    · unfold σgc
      simp only [List.map_cons, List.map_nil, List.getD_cons_zero, List.getD_cons_succ, AO.gc, gc_tNs]
      rfl
    · rintro l n v σ hv ⟨rfl, rfl⟩
      have hne : L ≠ [] := fun e => by rw [e] at hv; cases hv
      simp only [go_sem, Nat.reduceEqDiff, Nat.reduceAdd, Nat.reduceLT, hshl, hi00]
      refine ACallL.quiet1 hun rfl ?_ rfl ?_
      · rfl
      simp only [go_sem, Nat.reduceEqDiff, Nat.reduceAdd, undef]
      refine ⟨[0, 1, 2, 3], rfl, rfl, hne, ?_⟩
      unfold σgc
      simp only [List.map_cons, List.map_nil, List.getD_cons_zero, List.getD_cons_succ, AO.gc, gc_tNs]
      rfl
    · rintro σ ⟨hn, rfl⟩
      have hL0 : L = [] := by cases L with
        | nil => rfl
        | cons _ _ => simp at hn
      have hfb : fitB o f = false := by rw [hfit, hL0]; rfl
      rw [hfb, if_neg (by decide), Nat.or_zero]
      simp only [go_sem, Nat.reduceEqDiff, w2]
      exact ⟨hil, _, Sub.gc [0, 1, 2] [137, 2, 9, 11, 12, 128, 129, 130, 135, 136] rfl rfl, d + 1, St.gc_mk (by rw [hto, hs]; rfl) (by unfold σgc; simp only [List.map_cons, List.map_nil, List.getD_cons_zero, List.getD_cons_succ, AO.gc, gc_tNs]; rfl) (by simp [Df.gc, List.replicate_succ]) rfl⟩
    · rintro e σ ⟨rfl, hne, rfl⟩
      have hfb : fitB o f = true := by
        rw [hfit]
        cases L with
        | nil => exact absurd rfl hne
        | cons _ _ => rfl
      rw [hfb, if_pos rfl]
      simp only [go_sem, Nat.reduceEqDiff, Nat.reduceAdd, Nat.reduceLT, w2]
      exact ⟨hil, _, Sub.gc [0, 1, 2] [137, 2, 9, 11, 12, 128, 129, 130, 135, 136] rfl rfl, d + 1, St.gc_mk (by rw [hto, hs]; rfl) (by unfold σgc; simp only [List.map_cons, List.map_nil, List.getD_cons_zero, List.getD_cons_succ, AO.gc, gc_tNs]; rfl) (by simp [Df.gc, List.replicate_succ]) rfl⟩
end Go.Proofs.YtnmmhkkmejbckaaGreatDoor
