/- Proved here: laws that the statements need (TwY4, TwY5). No conditions but those that each law states. -/
import Derived.Test.YticdacdflemoiaaLO

set_option linter.unusedSimpArgs false
set_option linter.unusedVariables false

/- Steps from one truth of towels towards another one, by alternating ways: plain laws. -/
namespace Go.Proofs.Yticdacdflemoiaa
open Go Go.Ab

def sumN (n : Nat) (g : Nat → Int) : Int := ((List.range n).map g).sum
theorem sumN_zero (g : Nat → Int) : sumN 0 g = 0 := rfl
theorem sumN_succ (n : Nat) (g : Nat → Int) : sumN (n + 1) g = sumN n g + g n := by simp [sumN, List.range_succ]
theorem sumN_add (n : Nat) (g h : Nat → Int) : sumN n (fun i => g i + h i) = sumN n g + sumN n h := by
  induction n with
  | zero => rfl
  | succ n ih => rw [sumN_succ, sumN_succ, sumN_succ, ih]; omega
theorem sumN_neg (n : Nat) (g : Nat → Int) : sumN n (fun i => - g i) = - sumN n g := by
  induction n with
  | zero => rfl
  | succ n ih => rw [sumN_succ, sumN_succ, ih]; omega
theorem sumN_congr {n : Nat} {g h : Nat → Int} (e : ∀ i < n, g i = h i) : sumN n g = sumN n h := by
  unfold sumN
  congr 1
  exact List.map_congr_left fun i hi => e i (List.mem_range.1 hi)
theorem sumN_one (n j : Nat) (hj : j < n) (s : Int) : sumN n (fun i => if j = i then s else 0) = s := by
  have key : ∀ n, sumN n (fun i => if j = i then s else 0) = if j < n then s else 0 := by
    intro n
    induction n with
    | zero => simp [sumN_zero]
    | succ n ih =>
      rw [sumN_succ, ih]
      by_cases h : j = n
      · subst h; simp
      · by_cases h2 : j < n
        · rw [if_pos h2, if_neg h, if_pos (by omega)]; omega
        · rw [if_neg h2, if_neg h, if_neg (by omega)]; rfl
  rw [key, if_pos hj]
theorem sumN_nonneg {n : Nat} {g : Nat → Int} (h : ∀ i < n, 0 ≤ g i) : 0 ≤ sumN n g ∧ ∀ j < n, g j ≤ sumN n g := by
  induction n with
  | zero => exact ⟨Int.le_refl 0, fun j hj => by omega⟩
  | succ n ih =>
    obtain ⟨h1, h2⟩ := ih fun i hi => h i (by omega)
    rw [sumN_succ]
    have := h n (by omega)
    refine ⟨by omega, fun j hj => ?_⟩
    by_cases hj2 : j < n
    · have := h2 j hj2; omega
    · obtain rfl : j = n := by omega
      omega

/-- Of those at a place. -/
def sel (n : Nat) (f : Nat → Int) (r : Int) (d : Nat → Int) : Int := sumN n fun i => if f i = r then d i else 0

theorem sel_neg {n : Nat} {f : Nat → Int} {r : Int} {d : Nat → Int} {j0 : Nat} (hj : j0 < n) (hf : f j0 = r) (hd : 0 < d j0) (hs : ¬ 0 < sel n f r d) : ∃ j < n, f j = r ∧ d j < 0 := by
  rcases Classical.em (∃ j < n, f j = r ∧ d j < 0) with h | h
  · exact h
  · exfalso
    have := sumN_nonneg (n := n) (g := fun i => if f i = r then d i else 0) (fun i hi => by
      by_cases e : f i = r
      · rw [if_pos e]
        have : ¬ d i < 0 := fun hd => h ⟨i, hi, e, hd⟩
        omega
      · rw [if_neg e]; omega)
    have h2 := this.2 j0 hj
    rw [if_pos hf] at h2
    unfold sel at hs
    omega
theorem sel_opp (n : Nat) (f : Nat → Int) (r : Int) (d : Nat → Int) : sel n f r (fun i => - d i) = - sel n f r d := by
  unfold sel
  rw [← sumN_neg]
  refine sumN_congr fun i _ => ?_
  by_cases e : f i = r
  · rw [if_pos e, if_pos e]
  · rw [if_neg e, if_neg e]; rfl
theorem sel_pos {n : Nat} {f : Nat → Int} {r : Int} {d : Nat → Int} {j0 : Nat} (hj : j0 < n) (hf : f j0 = r) (hd : d j0 < 0) (hs : ¬ sel n f r d < 0) : ∃ j < n, f j = r ∧ 0 < d j := by
  obtain ⟨j, h1, h2, h3⟩ := sel_neg (d := fun i => - d i) hj hf (by omega) (by rw [sel_opp]; omega)
  exact ⟨j, h1, h2, by omega⟩

/-- Some ones, and the opposites of some. -/
def pt (L : List (Nat × Int)) (i : Nat) : Int := (L.map fun e => if e.1 = i then e.2 else 0).sum
theorem pt_cons (e : Nat × Int) (L : List (Nat × Int)) (i : Nat) : pt (e :: L) i = (if e.1 = i then e.2 else 0) + pt L i := by simp [pt]
theorem pt_nil (i : Nat) : pt [] i = 0 := rfl
theorem sel_pt {n : Nat} (f : Nat → Int) (r : Int) : ∀ {L : List (Nat × Int)}, (∀ e ∈ L, e.1 < n) → sel n f r (pt L) = (L.map fun e => if f e.1 = r then e.2 else 0).sum
  | [], _ => by
    unfold sel
    rw [sumN_congr (h := fun _ => 0) fun i _ => by simp [pt_nil]]
    simp [sumN, List.map_const']
  | e :: L, h => by
    have ih := sel_pt f r (L := L) fun x hx => h x (by simp [hx])
    have he := h e (by simp)
    simp only [List.map_cons, List.sum_cons]
    rw [← ih]
    unfold sel
    rw [← sumN_one n e.1 he (if f e.1 = r then e.2 else 0), ← sumN_add]
    refine sumN_congr fun i _ => ?_
    rw [pt_cons]
    by_cases h1 : e.1 = i
    · subst h1
      by_cases h2 : f e.1 = r
      · simp [h2]
      · simp [h2]
    · simp [h1]

structure Conf (n : Nat) (h v d p : Nat → Int) : Prop where
  one : ∀ i < n, p i = 0 ∨ (p i = 1 ∧ 0 < d i) ∨ (p i = -1 ∧ d i < 0)
  row : ∀ r, sel n h r p = 0 ∨ (sel n h r p = 1 ∧ 0 < sel n h r d) ∨ (sel n h r p = -1 ∧ sel n h r d < 0)
  col : ∀ c, sel n v c p = 0 ∨ (sel n v c p = 1 ∧ 0 < sel n v c d) ∨ (sel n v c p = -1 ∧ sel n v c d < 0)
  nz : ∃ i < n, p i ≠ 0

theorem Conf.swap {n : Nat} {h v d p : Nat → Int} (c : Conf n v h d p) : Conf n h v d p := ⟨c.one, c.col, c.row, c.nz⟩
theorem Conf.neg {n : Nat} {h v d p : Nat → Int} (c : Conf n h v (fun i => - d i) p) : Conf n h v d (fun i => - p i) := by
  obtain ⟨c1, c2, c3, i, hi, c4⟩ := c
  refine ⟨fun i hi => ?_, fun r => ?_, fun r => ?_, i, hi, by omega⟩
  · have := c1 i hi; omega
  · have := c2 r; rw [sel_opp] at this ⊢; omega
  · have := c3 r; rw [sel_opp] at this ⊢; omega

/-- A way is all right. -/
theorem Conf.of {n : Nat} {h v d : Nat → Int} {L : List (Nat × Int)} (hL : ∀ e ∈ L, e.1 < n) (h1 : ∀ i < n, pt L i = 0 ∨ (pt L i = 1 ∧ 0 < d i) ∨ (pt L i = -1 ∧ d i < 0))
    (h2 : ∀ r, (L.map fun e => if h e.1 = r then e.2 else 0).sum = 0 ∨ ((L.map fun e => if h e.1 = r then e.2 else 0).sum = 1 ∧ 0 < sel n h r d) ∨ ((L.map fun e => if h e.1 = r then e.2 else 0).sum = -1 ∧ sel n h r d < 0))
    (h3 : ∀ c, (L.map fun e => if v e.1 = c then e.2 else 0).sum = 0 ∨ ((L.map fun e => if v e.1 = c then e.2 else 0).sum = 1 ∧ 0 < sel n v c d) ∨ ((L.map fun e => if v e.1 = c then e.2 else 0).sum = -1 ∧ sel n v c d < 0))
    (h4 : ∃ i < n, pt L i ≠ 0) : Conf n h v d (pt L) :=
  ⟨h1, fun r => by rw [sel_pt h r hL]; exact h2 r, fun c => by rw [sel_pt v c hL]; exact h3 c, h4⟩

def ind (o : Option Int) (r : Int) : Int := if o = some r then 1 else 0
/-- What is asked of a way's rows: nothing, or one more in a first one, and one less in a last one. -/
theorem row_of {n : Nat} {f d : Nat → Int} {s : Int → Int} (a b : Option Int) (ha : ∀ x, a = some x → 0 < sel n f x d) (hb : ∀ x, b = some x → sel n f x d < 0)
    (hs : ∀ r, s r = ind a r - ind b r) : ∀ r, s r = 0 ∨ (s r = 1 ∧ 0 < sel n f r d) ∨ (s r = -1 ∧ sel n f r d < 0) := by
  intro r
  rw [hs r]
  unfold ind
  by_cases e : a = some r
  · have h1 := ha r e
    by_cases e2 : b = some r
    · have h2 := hb r e2; omega
    · rw [if_pos e, if_neg e2]; exact .inr (.inl ⟨rfl, h1⟩)
  · by_cases e2 : b = some r
    · have h2 := hb r e2
      rw [if_neg e, if_pos e2]; exact .inr (.inr ⟨rfl, h2⟩)
    · rw [if_neg e, if_neg e2]; exact .inl rfl

theorem pt_none : ∀ {L : List (Nat × Int)} {i : Nat}, (∀ e ∈ L, e.1 ≠ i) → pt L i = 0
  | [], _, _ => rfl
  | e :: L, i, h => by
    rw [pt_cons, if_neg (h e (by simp)), pt_none fun x hx => h x (by simp [hx])]
    rfl
theorem pt_mem : ∀ {L : List (Nat × Int)} {e : Nat × Int}, L.Pairwise (fun a b => a.1 ≠ b.1) → e ∈ L → pt L e.1 = e.2
  | [], _, _, h => by simp at h
  | a :: L, e, hp, h => by
    obtain ⟨h1, h2⟩ := List.pairwise_cons.1 hp
    rw [pt_cons]
    rcases List.mem_cons.1 h with rfl | h
    · rw [if_pos rfl, pt_none fun x hx he => h1 x hx he.symm]
      omega
    · rw [if_neg (h1 e h), pt_mem h2 h]
      omega

theorem Conf.of2 {n : Nat} {h v d : Nat → Int} {L : List (Nat × Int)} (a b c e : Option Int) (hL : ∀ x ∈ L, x.1 < n ∧ ((x.2 = 1 ∧ 0 < d x.1) ∨ (x.2 = -1 ∧ d x.1 < 0))) (hp : L.Pairwise fun a b => a.1 ≠ b.1) (hne : L ≠ [])
    (ha : ∀ x, a = some x → 0 < sel n h x d) (hb : ∀ x, b = some x → sel n h x d < 0) (hc : ∀ x, c = some x → 0 < sel n v x d) (he : ∀ x, e = some x → sel n v x d < 0)
    (hr : ∀ r, (L.map fun e => if h e.1 = r then e.2 else 0).sum = ind a r - ind b r) (hq : ∀ r, (L.map fun e => if v e.1 = r then e.2 else 0).sum = ind c r - ind e r) : ∃ p, Conf n h v d p := by
  refine ⟨_, Conf.of (L := L) (fun x hx => (hL x hx).1) (fun i hi => ?_) (row_of a b ha hb hr) (row_of c e hc he hq) ?_⟩
  · rcases Classical.em (∃ x ∈ L, x.1 = i) with ⟨x, hx, rfl⟩ | hno
    · rw [pt_mem hp hx]
      have := (hL x hx).2
      omega
    · rw [pt_none fun x hx hxi => hno ⟨x, hx, hxi⟩]
      exact .inl rfl
  · obtain ⟨x, hx⟩ := List.exists_mem_of_ne_nil _ hne
    refine ⟨x.1, (hL x hx).1, ?_⟩
    rw [pt_mem hp hx]
    have := (hL x hx).2
    omega

def bi (p r : Int) : Int := if p = r then 1 else 0
theorem bi_pos (p r : Int) : (if p = r then (1 : Int) else 0) = bi p r := rfl
theorem bi_neg (p r : Int) : (if p = r then (-1 : Int) else 0) = - bi p r := by unfold bi; split <;> rfl
theorem ind_some (x r : Int) : ind (some x) r = bi x r := by unfold ind bi; simp only [Option.some.injEq]
theorem ind_none (r : Int) : ind none r = 0 := by simp [ind]
theorem three {a b c x : Int} (ha : 0 ≤ a ∧ a < 3) (hb : 0 ≤ b ∧ b < 3) (hc : 0 ≤ c ∧ c < 3) (hx : 0 ≤ x ∧ x < 3) (h1 : a ≠ b) (h2 : a ≠ c) (h3 : b ≠ c) : x = a ∨ x = b ∨ x = c := by omega

set_option maxHeartbeats 8000000 in
/-- **A STEP** from where something is more, and may be. -/
theorem step_from {n : Nat} {h v d : Nat → Int} (hh : ∀ i < n, 0 ≤ h i ∧ h i < 3) (hv : ∀ i < n, 0 ≤ v i ∧ v i < 3) {j0 : Nat} (hj0 : j0 < n) (hd0 : 0 < d j0)
    (hs : 0 < sel n h (h j0) d ∨ ((∀ r, sel n h r d = 0) ∧ ∀ c, sel n v c d = 0)) : ∃ p, Conf n h v d p := by
  -- a way that ends at a column, or at a row
  have endC : ∀ c, 0 < sel n v c d → 0 < sel n h (h j0) d := fun c hc => by
    rcases hs with h1 | ⟨_, h2⟩
    · exact h1
    · have := h2 c; omega
  have endR : ∀ r, sel n h r d < 0 → 0 < sel n h (h j0) d := fun r hr => by
    rcases hs with h1 | ⟨h1, _⟩
    · exact h1
    · have := h1 r; omega
  by_cases k0 : 0 < sel n v (v j0) d
  · have s0 := endC _ k0
    exact Conf.of2 (L := [(j0, 1)]) (some (h j0)) none (some (v j0)) none
      (List.forall_mem_cons.2 ⟨⟨hj0, .inl ⟨rfl, hd0⟩⟩, by simp⟩)
      (by simp) (by simp) (fun x hx => by cases hx; exact s0) (by simp) (fun x hx => by cases hx; exact k0) (by simp)
      (fun r => by simp only [List.map_cons, List.map_nil, List.sum_cons, List.sum_nil, bi_pos, bi_neg, ind_some, ind_none, if_true]; clear hh hv; omega)
      (fun r => by simp only [List.map_cons, List.map_nil, List.sum_cons, List.sum_nil, bi_pos, bi_neg, ind_some, ind_none, if_true]; clear hh hv; omega)
  obtain ⟨j1, hj1, v1, hd1⟩ := sel_neg hj0 rfl hd0 k0
  have n01 : j0 ≠ j1 := fun e => by subst e; omega
  by_cases r1 : h j1 = h j0
  · exact Conf.of2 (L := [(j0, 1), (j1, -1)]) none none none none
      (List.forall_mem_cons.2 ⟨⟨hj0, .inl ⟨rfl, hd0⟩⟩, List.forall_mem_cons.2 ⟨⟨hj1, .inr ⟨rfl, hd1⟩⟩, by simp⟩⟩)
      (by simp [List.pairwise_cons, n01]) (by simp) (by simp) (by simp) (by simp) (by simp)
      (fun r => by simp only [List.map_cons, List.map_nil, List.sum_cons, List.sum_nil, bi_pos, bi_neg, ind_some, ind_none, v1, r1]; clear hh hv; omega)
      (fun r => by simp only [List.map_cons, List.map_nil, List.sum_cons, List.sum_nil, bi_pos, bi_neg, ind_some, ind_none, v1, r1]; clear hh hv; omega)
  by_cases k1 : sel n h (h j1) d < 0
  · have s0 := endR _ k1
    exact Conf.of2 (L := [(j0, 1), (j1, -1)]) (some (h j0)) (some (h j1)) none none
      (List.forall_mem_cons.2 ⟨⟨hj0, .inl ⟨rfl, hd0⟩⟩, List.forall_mem_cons.2 ⟨⟨hj1, .inr ⟨rfl, hd1⟩⟩, by simp⟩⟩)
      (by simp [List.pairwise_cons, n01]) (by simp) (fun x hx => by cases hx; exact s0) (fun x hx => by cases hx; exact k1) (by simp) (by simp)
      (fun r => by simp only [List.map_cons, List.map_nil, List.sum_cons, List.sum_nil, bi_pos, bi_neg, ind_some, ind_none, v1]; clear hh hv; omega)
      (fun r => by simp only [List.map_cons, List.map_nil, List.sum_cons, List.sum_nil, bi_pos, bi_neg, ind_some, ind_none, v1]; clear hh hv; omega)
  obtain ⟨j2, hj2, h2, hd2⟩ := sel_pos hj1 rfl hd1 k1
  have n12 : j1 ≠ j2 := fun e => by subst e; omega
  by_cases c1 : v j2 = v j0
  · exact Conf.of2 (L := [(j1, -1), (j2, 1)]) none none none none
      (List.forall_mem_cons.2 ⟨⟨hj1, .inr ⟨rfl, hd1⟩⟩, List.forall_mem_cons.2 ⟨⟨hj2, .inl ⟨rfl, hd2⟩⟩, by simp⟩⟩)
      (by simp [List.pairwise_cons, n12]) (by simp) (by simp) (by simp) (by simp) (by simp)
      (fun r => by simp only [List.map_cons, List.map_nil, List.sum_cons, List.sum_nil, bi_pos, bi_neg, ind_some, ind_none, v1, h2, c1]; clear hh hv; omega)
      (fun r => by simp only [List.map_cons, List.map_nil, List.sum_cons, List.sum_nil, bi_pos, bi_neg, ind_some, ind_none, v1, h2, c1]; clear hh hv; omega)
  have n02 : j0 ≠ j2 := fun e => by subst e; exact c1 rfl
  by_cases k2 : 0 < sel n v (v j2) d
  · have s0 := endC _ k2
    exact Conf.of2 (L := [(j0, 1), (j1, -1), (j2, 1)]) (some (h j0)) none (some (v j2)) none
      (List.forall_mem_cons.2 ⟨⟨hj0, .inl ⟨rfl, hd0⟩⟩, List.forall_mem_cons.2 ⟨⟨hj1, .inr ⟨rfl, hd1⟩⟩, List.forall_mem_cons.2 ⟨⟨hj2, .inl ⟨rfl, hd2⟩⟩, by simp⟩⟩⟩)
      (by simp [List.pairwise_cons, n01, n02, n12]) (by simp) (fun x hx => by cases hx; exact s0) (by simp) (fun x hx => by cases hx; exact k2) (by simp)
      (fun r => by simp only [List.map_cons, List.map_nil, List.sum_cons, List.sum_nil, bi_pos, bi_neg, ind_some, ind_none, v1, h2]; clear hh hv; omega)
      (fun r => by simp only [List.map_cons, List.map_nil, List.sum_cons, List.sum_nil, bi_pos, bi_neg, ind_some, ind_none, v1, h2]; clear hh hv; omega)
  obtain ⟨j3, hj3, v3, hd3⟩ := sel_neg hj2 rfl hd2 k2
  have n03 : j0 ≠ j3 := fun e => by subst e; omega
  have n23 : j2 ≠ j3 := fun e => by subst e; omega
  have n13 : j1 ≠ j3 := fun e => by subst e; exact c1 (v3.symm.trans v1)
  by_cases r2 : h j3 = h j0
  · exact Conf.of2 (L := [(j0, 1), (j1, -1), (j2, 1), (j3, -1)]) none none none none
      (List.forall_mem_cons.2 ⟨⟨hj0, .inl ⟨rfl, hd0⟩⟩, List.forall_mem_cons.2 ⟨⟨hj1, .inr ⟨rfl, hd1⟩⟩, List.forall_mem_cons.2 ⟨⟨hj2, .inl ⟨rfl, hd2⟩⟩, List.forall_mem_cons.2 ⟨⟨hj3, .inr ⟨rfl, hd3⟩⟩, by simp⟩⟩⟩⟩)
      (by simp [List.pairwise_cons, n01, n02, n03, n12, n13, n23]) (by simp) (by simp) (by simp) (by simp) (by simp)
      (fun r => by simp only [List.map_cons, List.map_nil, List.sum_cons, List.sum_nil, bi_pos, bi_neg, ind_some, ind_none, v1, h2, v3, r2]; clear hh hv; omega)
      (fun r => by simp only [List.map_cons, List.map_nil, List.sum_cons, List.sum_nil, bi_pos, bi_neg, ind_some, ind_none, v1, h2, v3, r2]; clear hh hv; omega)
  by_cases r3 : h j3 = h j1
  · exact Conf.of2 (L := [(j2, 1), (j3, -1)]) none none none none
      (List.forall_mem_cons.2 ⟨⟨hj2, .inl ⟨rfl, hd2⟩⟩, List.forall_mem_cons.2 ⟨⟨hj3, .inr ⟨rfl, hd3⟩⟩, by simp⟩⟩)
      (by simp [List.pairwise_cons, n23]) (by simp) (by simp) (by simp) (by simp) (by simp)
      (fun r => by simp only [List.map_cons, List.map_nil, List.sum_cons, List.sum_nil, bi_pos, bi_neg, ind_some, ind_none, h2, v3, r3]; clear hh hv; omega)
      (fun r => by simp only [List.map_cons, List.map_nil, List.sum_cons, List.sum_nil, bi_pos, bi_neg, ind_some, ind_none, h2, v3, r3]; clear hh hv; omega)
  by_cases k3 : sel n h (h j3) d < 0
  · have s0 := endR _ k3
    exact Conf.of2 (L := [(j0, 1), (j1, -1), (j2, 1), (j3, -1)]) (some (h j0)) (some (h j3)) none none
      (List.forall_mem_cons.2 ⟨⟨hj0, .inl ⟨rfl, hd0⟩⟩, List.forall_mem_cons.2 ⟨⟨hj1, .inr ⟨rfl, hd1⟩⟩, List.forall_mem_cons.2 ⟨⟨hj2, .inl ⟨rfl, hd2⟩⟩, List.forall_mem_cons.2 ⟨⟨hj3, .inr ⟨rfl, hd3⟩⟩, by simp⟩⟩⟩⟩)
      (by simp [List.pairwise_cons, n01, n02, n03, n12, n13, n23]) (by simp) (fun x hx => by cases hx; exact s0) (fun x hx => by cases hx; exact k3) (by simp) (by simp)
      (fun r => by simp only [List.map_cons, List.map_nil, List.sum_cons, List.sum_nil, bi_pos, bi_neg, ind_some, ind_none, v1, h2, v3]; clear hh hv; omega)
      (fun r => by simp only [List.map_cons, List.map_nil, List.sum_cons, List.sum_nil, bi_pos, bi_neg, ind_some, ind_none, v1, h2, v3]; clear hh hv; omega)
  obtain ⟨j4, hj4, h4, hd4⟩ := sel_pos hj3 rfl hd3 k3
  have n14 : j1 ≠ j4 := fun e => by subst e; omega
  have n34 : j3 ≠ j4 := fun e => by subst e; omega
  by_cases c2 : v j4 = v j0
  · have n24 : j2 ≠ j4 := fun e => by subst e; exact c1 c2
    exact Conf.of2 (L := [(j1, -1), (j2, 1), (j3, -1), (j4, 1)]) none none none none
      (List.forall_mem_cons.2 ⟨⟨hj1, .inr ⟨rfl, hd1⟩⟩, List.forall_mem_cons.2 ⟨⟨hj2, .inl ⟨rfl, hd2⟩⟩, List.forall_mem_cons.2 ⟨⟨hj3, .inr ⟨rfl, hd3⟩⟩, List.forall_mem_cons.2 ⟨⟨hj4, .inl ⟨rfl, hd4⟩⟩, by simp⟩⟩⟩⟩)
      (by simp [List.pairwise_cons, n12, n13, n14, n23, n24, n34]) (by simp) (by simp) (by simp) (by simp) (by simp)
      (fun r => by simp only [List.map_cons, List.map_nil, List.sum_cons, List.sum_nil, bi_pos, bi_neg, ind_some, ind_none, v1, h2, v3, h4, c2]; clear hh hv; omega)
      (fun r => by simp only [List.map_cons, List.map_nil, List.sum_cons, List.sum_nil, bi_pos, bi_neg, ind_some, ind_none, v1, h2, v3, h4, c2]; clear hh hv; omega)
  by_cases c3 : v j4 = v j2
  · exact Conf.of2 (L := [(j3, -1), (j4, 1)]) none none none none
      (List.forall_mem_cons.2 ⟨⟨hj3, .inr ⟨rfl, hd3⟩⟩, List.forall_mem_cons.2 ⟨⟨hj4, .inl ⟨rfl, hd4⟩⟩, by simp⟩⟩)
      (by simp [List.pairwise_cons, n34]) (by simp) (by simp) (by simp) (by simp) (by simp)
      (fun r => by simp only [List.map_cons, List.map_nil, List.sum_cons, List.sum_nil, bi_pos, bi_neg, ind_some, ind_none, v3, h4, c3]; clear hh hv; omega)
      (fun r => by simp only [List.map_cons, List.map_nil, List.sum_cons, List.sum_nil, bi_pos, bi_neg, ind_some, ind_none, v3, h4, c3]; clear hh hv; omega)
  have n04 : j0 ≠ j4 := fun e => by subst e; exact c2 rfl
  have n24 : j2 ≠ j4 := fun e => by subst e; exact c3 rfl
  by_cases k4 : 0 < sel n v (v j4) d
  · have s0 := endC _ k4
    exact Conf.of2 (L := [(j0, 1), (j1, -1), (j2, 1), (j3, -1), (j4, 1)]) (some (h j0)) none (some (v j4)) none
      (List.forall_mem_cons.2 ⟨⟨hj0, .inl ⟨rfl, hd0⟩⟩, List.forall_mem_cons.2 ⟨⟨hj1, .inr ⟨rfl, hd1⟩⟩, List.forall_mem_cons.2 ⟨⟨hj2, .inl ⟨rfl, hd2⟩⟩, List.forall_mem_cons.2 ⟨⟨hj3, .inr ⟨rfl, hd3⟩⟩, List.forall_mem_cons.2 ⟨⟨hj4, .inl ⟨rfl, hd4⟩⟩, by simp⟩⟩⟩⟩⟩)
      (by simp [List.pairwise_cons, n01, n02, n03, n04, n12, n13, n14, n23, n24, n34]) (by simp) (fun x hx => by cases hx; exact s0) (by simp) (fun x hx => by cases hx; exact k4) (by simp)
      (fun r => by simp only [List.map_cons, List.map_nil, List.sum_cons, List.sum_nil, bi_pos, bi_neg, ind_some, ind_none, v1, h2, v3, h4]; clear hh hv; omega)
      (fun r => by simp only [List.map_cons, List.map_nil, List.sum_cons, List.sum_nil, bi_pos, bi_neg, ind_some, ind_none, v1, h2, v3, h4]; clear hh hv; omega)
  obtain ⟨j5, hj5, v5, hd5⟩ := sel_neg hj4 rfl hd4 k4
  have n05 : j0 ≠ j5 := fun e => by subst e; omega
  have n25 : j2 ≠ j5 := fun e => by subst e; omega
  have n45 : j4 ≠ j5 := fun e => by subst e; omega
  have n15 : j1 ≠ j5 := fun e => by subst e; exact c2 (v5.symm.trans v1)
  have n35 : j3 ≠ j5 := fun e => by subst e; exact c3 (v5.symm.trans v3)
  rcases three (hh j0 hj0) (hh j1 hj1) (hh j3 hj3) (hh j5 hj5) (fun e => r1 e.symm) (fun e => r2 e.symm) (fun e => r3 e.symm) with r4 | r4 | r4
  · exact Conf.of2 (L := [(j0, 1), (j1, -1), (j2, 1), (j3, -1), (j4, 1), (j5, -1)]) none none none none
      (List.forall_mem_cons.2 ⟨⟨hj0, .inl ⟨rfl, hd0⟩⟩, List.forall_mem_cons.2 ⟨⟨hj1, .inr ⟨rfl, hd1⟩⟩, List.forall_mem_cons.2 ⟨⟨hj2, .inl ⟨rfl, hd2⟩⟩, List.forall_mem_cons.2 ⟨⟨hj3, .inr ⟨rfl, hd3⟩⟩, List.forall_mem_cons.2 ⟨⟨hj4, .inl ⟨rfl, hd4⟩⟩, List.forall_mem_cons.2 ⟨⟨hj5, .inr ⟨rfl, hd5⟩⟩, by simp⟩⟩⟩⟩⟩⟩)
      (by simp [List.pairwise_cons, n01, n02, n03, n04, n05, n12, n13, n14, n15, n23, n24, n25, n34, n35, n45]) (by simp) (by simp) (by simp) (by simp) (by simp)
      (fun r => by simp only [List.map_cons, List.map_nil, List.sum_cons, List.sum_nil, bi_pos, bi_neg, ind_some, ind_none, v1, h2, v3, h4, v5, r4]; clear hh hv; omega)
      (fun r => by simp only [List.map_cons, List.map_nil, List.sum_cons, List.sum_nil, bi_pos, bi_neg, ind_some, ind_none, v1, h2, v3, h4, v5, r4]; clear hh hv; omega)
  · exact Conf.of2 (L := [(j2, 1), (j3, -1), (j4, 1), (j5, -1)]) none none none none
      (List.forall_mem_cons.2 ⟨⟨hj2, .inl ⟨rfl, hd2⟩⟩, List.forall_mem_cons.2 ⟨⟨hj3, .inr ⟨rfl, hd3⟩⟩, List.forall_mem_cons.2 ⟨⟨hj4, .inl ⟨rfl, hd4⟩⟩, List.forall_mem_cons.2 ⟨⟨hj5, .inr ⟨rfl, hd5⟩⟩, by simp⟩⟩⟩⟩)
      (by simp [List.pairwise_cons, n23, n24, n25, n34, n35, n45]) (by simp) (by simp) (by simp) (by simp) (by simp)
      (fun r => by simp only [List.map_cons, List.map_nil, List.sum_cons, List.sum_nil, bi_pos, bi_neg, ind_some, ind_none, h2, v3, h4, v5, r4]; clear hh hv; omega)
      (fun r => by simp only [List.map_cons, List.map_nil, List.sum_cons, List.sum_nil, bi_pos, bi_neg, ind_some, ind_none, h2, v3, h4, v5, r4]; clear hh hv; omega)
  · exact Conf.of2 (L := [(j4, 1), (j5, -1)]) none none none none
      (List.forall_mem_cons.2 ⟨⟨hj4, .inl ⟨rfl, hd4⟩⟩, List.forall_mem_cons.2 ⟨⟨hj5, .inr ⟨rfl, hd5⟩⟩, by simp⟩⟩)
      (by simp [List.pairwise_cons, n45]) (by simp) (by simp) (by simp) (by simp) (by simp)
      (fun r => by simp only [List.map_cons, List.map_nil, List.sum_cons, List.sum_nil, bi_pos, bi_neg, ind_some, ind_none, h4, v5, r4]; clear hh hv; omega)
      (fun r => by simp only [List.map_cons, List.map_nil, List.sum_cons, List.sum_nil, bi_pos, bi_neg, ind_some, ind_none, h4, v5, r4]; clear hh hv; omega)
end Go.Proofs.Yticdacdflemoiaa

/- What a bather can have kept are all numbers from one to another one: plain laws. -/
namespace Go.Proofs.Yticdacdflemoiaa
open Go Go.Ab

theorem sel_some {n : Nat} {f : Nat → Int} {r : Int} {d : Nat → Int} (h : 0 < sel n f r d) : ∃ j < n, f j = r ∧ 0 < d j := by
  rcases Classical.em (∃ j < n, f j = r ∧ 0 < d j) with h1 | h1
  · exact h1
  · exfalso
    have := (sumN_nonneg (n := n) (g := fun i => - (if f i = r then d i else 0)) (fun i hi => by
      by_cases e : f i = r
      · rw [if_pos e]
        have : ¬ 0 < d i := fun hd => h1 ⟨i, hi, e, hd⟩
        omega
      · rw [if_neg e]; omega)).1
    rw [sumN_neg] at this
    unfold sel at h
    omega

theorem step {n : Nat} {h v d : Nat → Int} (hh : ∀ i < n, 0 ≤ h i ∧ h i < 3) (hv : ∀ i < n, 0 ≤ v i ∧ v i < 3) (hne : ∃ i < n, d i ≠ 0) : ∃ p, Conf n h v d p := by
  have pos : ∀ {h v d : Nat → Int}, (∀ i < n, 0 ≤ h i ∧ h i < 3) → (∀ i < n, 0 ≤ v i ∧ v i < 3) → ∀ r, 0 < sel n h r d → ∃ p, Conf n h v d p := fun {h v d} hh hv r hr => by
    obtain ⟨j, hj, e, hd⟩ := sel_some hr
    exact step_from hh hv hj hd (.inl (by rw [e]; exact hr))
  have neg : ∀ {h v d : Nat → Int}, (∀ i < n, 0 ≤ h i ∧ h i < 3) → (∀ i < n, 0 ≤ v i ∧ v i < 3) → ∀ r, sel n h r d < 0 → ∃ p, Conf n h v d p := fun {h v d} hh hv r hr => by
    obtain ⟨p, hp⟩ := pos (d := fun i => - d i) hh hv r (by rw [sel_opp]; omega)
    exact ⟨_, hp.neg⟩
  by_cases q1 : ∃ r, 0 < sel n h r d
  · obtain ⟨r, hr⟩ := q1; exact pos hh hv r hr
  by_cases q2 : ∃ r, sel n h r d < 0
  · obtain ⟨r, hr⟩ := q2; exact neg hh hv r hr
  by_cases q3 : ∃ r, 0 < sel n v r d
  · obtain ⟨r, hr⟩ := q3
    obtain ⟨p, hp⟩ := pos hv hh r hr
    exact ⟨p, hp.swap⟩
  by_cases q4 : ∃ r, sel n v r d < 0
  · obtain ⟨r, hr⟩ := q4
    obtain ⟨p, hp⟩ := neg hv hh r hr
    exact ⟨p, hp.swap⟩
  have z1 : ∀ r, sel n h r d = 0 := fun r => by
    have a : ¬ 0 < sel n h r d := fun h => q1 ⟨r, h⟩
    have b : ¬ sel n h r d < 0 := fun h => q2 ⟨r, h⟩
    omega
  have z2 : ∀ r, sel n v r d = 0 := fun r => by
    have a : ¬ 0 < sel n v r d := fun h => q3 ⟨r, h⟩
    have b : ¬ sel n v r d < 0 := fun h => q4 ⟨r, h⟩
    omega
  obtain ⟨i, hi, hd⟩ := hne
  by_cases q5 : 0 < d i
  · exact step_from hh hv hi q5 (.inr ⟨z1, z2⟩)
  · obtain ⟨p, hp⟩ := step_from (d := fun i => - d i) hh hv hi (by omega) (.inr ⟨fun r => by rw [sel_opp, z1 r]; rfl, fun r => by rw [sel_opp, z2 r]; rfl⟩)
    exact ⟨_, hp.neg⟩

def hutAt (bs : List B) (i : Nat) : Int := match bs[i]? with | some b => b.hut | none => 0
def halfAt (bs : List B) (i : Nat) : Int := match bs[i]? with | some b => b.half | none => 0

theorem sumSel_sumN (p : B → Bool) (bs : List B) (l : List Int) (hl : l.length = bs.length) : ∀ k, k ≤ bs.length → sumSel p bs (l.take k) = sumN k fun i => match bs[i]? with | some b => if p b then l.getD i 0 else 0 | none => 0
  | 0, _ => by simp [sumSel, sumN_zero]
  | k + 1, h => by
    have hb : bs[k]? = some bs[k] := List.getElem?_eq_getElem (by omega)
    have hx : l[k]? = some l[k] := List.getElem?_eq_getElem (by omega)
    rw [sumN_succ, sumSel_take p bs l k _ _ hb hx, sumSel_sumN p bs l hl k (by omega), hb]
    simp only [List.getD_eq_getElem?_getD, hx, Option.getD_some]

theorem sumSel_hut (bs : List B) (l : List Int) (hl : l.length = bs.length) (r : Int) : sumSel (fun b => b.hut == r) bs l = sel bs.length (hutAt bs) r fun i => l.getD i 0 := by
  have h := sumSel_sumN (fun b => b.hut == r) bs l hl bs.length (Nat.le_refl _)
  rw [List.take_of_length_le (by omega)] at h
  rw [h]
  unfold sel
  refine sumN_congr fun i hi => ?_
  have hb : bs[i]? = some bs[i] := List.getElem?_eq_getElem hi
  unfold hutAt
  rw [hb]
  simp only [beq_iff_eq]
theorem sumSel_half (bs : List B) (l : List Int) (hl : l.length = bs.length) (r : Int) : sumSel (fun b => b.half == r) bs l = sel bs.length (halfAt bs) r fun i => l.getD i 0 := by
  have h := sumSel_sumN (fun b => b.half == r) bs l hl bs.length (Nat.le_refl _)
  rw [List.take_of_length_le (by omega)] at h
  rw [h]
  unfold sel
  refine sumN_congr fun i hi => ?_
  have hb : bs[i]? = some bs[i] := List.getElem?_eq_getElem hi
  unfold halfAt
  rw [hb]
  simp only [beq_iff_eq]

theorem sel_sub (n : Nat) (f : Nat → Int) (r : Int) (d e : Nat → Int) : sel n f r (fun i => d i - e i) = sel n f r d - sel n f r e := by
  have : sel n f r (fun i => d i - e i) = sel n f r d + sel n f r (fun i => - e i) := by
    unfold sel
    rw [← sumN_add]
    refine sumN_congr fun i _ => ?_
    by_cases h : f i = r
    · simp only [if_pos h]; omega
    · simp only [if_neg h]; omega
  rw [this, sel_opp]
  omega
theorem sel_congr {n : Nat} {f : Nat → Int} {r : Int} {d e : Nat → Int} (h : ∀ i < n, d i = e i) : sel n f r d = sel n f r e := by
  unfold sel
  refine sumN_congr fun i hi => ?_
  rw [h i hi]

def distL (n : Nat) (l l' : List Int) : Int := sumN n fun i => (((l'.getD i 0 - l.getD i 0).natAbs : Nat) : Int)

/-- A truth that is nearer, and goes one step at most. -/
theorem nearer {t : Tw} (ht : t.OK) {l l' : List Int} (hl : fullT t l) (hl' : fullT t l') (hne : ∃ i < t.bs.length, l'.getD i 0 - l.getD i 0 ≠ 0) :
    ∃ m, fullT t m ∧ distL t.bs.length l m < distL t.bs.length l l' ∧ ∀ i < t.bs.length, l'.getD i 0 - 1 ≤ m.getD i 0 := by
  have hh : ∀ i < t.bs.length, 0 ≤ hutAt t.bs i ∧ hutAt t.bs i < 3 := fun i hi => by
    have hb : t.bs[i]? = some t.bs[i] := List.getElem?_eq_getElem hi
    have := ht.bs _ (List.mem_of_getElem? hb)
    have := ht.nh
    unfold hutAt; rw [hb]; simp only; omega
  have hv : ∀ i < t.bs.length, 0 ≤ halfAt t.bs i ∧ halfAt t.bs i < 3 := fun i hi => by
    have hb : t.bs[i]? = some t.bs[i] := List.getElem?_eq_getElem hi
    have := ht.bs _ (List.mem_of_getElem? hb)
    have := ht.nv
    unfold halfAt; rw [hb]; simp only; omega
  obtain ⟨p, hp⟩ := step (d := fun i => l'.getD i 0 - l.getD i 0) hh hv hne
  let m : List Int := (List.range t.bs.length).map fun i => l'.getD i 0 - p i
  have hml : m.length = t.bs.length := by simp [m]
  have hmg : ∀ i < t.bs.length, m.getD i 0 = l'.getD i 0 - p i := fun i hi => by
    simp only [m]
    rw [List.getD_eq_getElem?_getD, List.getElem?_map, List.getElem?_range hi]
    rfl
  refine ⟨m, ⟨hml, fun i x hx => ?_, fun i s hs hb => ?_, fun i s hs hb => ?_⟩, ?_, fun i hi => ?_⟩
  · have hi := (List.getElem?_eq_some_iff.1 hx).1
    have h1 := hl.word i x hx
    have h2 := hl'.word i x hx
    have h3 := hp.one i hi
    rw [hmg i hi]
    omega
  · have h1 := hl.hut i s hs hb
    have h2 := hl'.hut i s hs hb
    have h3 := hp.row (i : Int)
    rw [sel_sub] at h3
    rw [sumSel_hut t.bs l hl.len] at h1
    rw [sumSel_hut t.bs l' hl'.len] at h2
    rw [sumSel_hut t.bs m hml, sel_congr hmg, sel_sub]
    omega
  · have h1 := hl.half i s hs hb
    have h2 := hl'.half i s hs hb
    have h3 := hp.col (i : Int)
    rw [sel_sub] at h3
    rw [sumSel_half t.bs l hl.len] at h1
    rw [sumSel_half t.bs l' hl'.len] at h2
    rw [sumSel_half t.bs m hml, sel_congr hmg, sel_sub]
    omega
  · have key : distL t.bs.length l l' = distL t.bs.length l m + sumN t.bs.length fun i => (((p i).natAbs : Nat) : Int) := by
      unfold distL
      rw [← sumN_add]
      refine sumN_congr fun i hi => ?_
      rw [hmg i hi]
      have := hp.one i hi
      omega
    obtain ⟨i, hi, hpi⟩ := hp.nz
    have := (sumN_nonneg (n := t.bs.length) (g := fun i => (((p i).natAbs : Nat) : Int)) (fun i _ => by omega)).2 i hi
    omega
  · rw [hmg i hi]
    have := hp.one i hi
    omega

theorem next_truth {t : Tw} (ht : t.OK) {b : Nat} (hb : b < t.bs.length) : ∀ (m : Nat) {l l' : List Int}, fullT t l → fullT t l' → distL t.bs.length l l' ≤ m → l.getD b 0 < l'.getD b 0 → ∃ x, fullT t x ∧ x.getD b 0 = l.getD b 0 + 1
  | 0, l, l', _, _, hd, hlt => by
    have := (sumN_nonneg (n := t.bs.length) (g := fun i => (((l'.getD i 0 - l.getD i 0).natAbs : Nat) : Int)) (fun i _ => by omega)).2 b hb
    unfold distL at hd
    omega
  | m + 1, l, l', hl, hl', hd, hlt => by
    by_cases h1 : l'.getD b 0 = l.getD b 0 + 1
    · exact ⟨l', hl', h1⟩
    · obtain ⟨x, hx, h2, h3⟩ := nearer ht hl hl' ⟨b, hb, by omega⟩
      have := h3 b hb
      exact next_truth ht hb m hl hx (by omega) (by omega)

/-- **ALL NUMBERS BETWEEN**. -/
theorem between {t : Tw} (ht : t.OK) {b : Nat} (hb : b < t.bs.length) {l l' : List Int} (hl : fullT t l) (hl' : fullT t l') : ∀ (k : Nat), l.getD b 0 + k ≤ l'.getD b 0 → ∃ x, fullT t x ∧ x.getD b 0 = l.getD b 0 + k
  | 0, _ => ⟨l, hl, by simp⟩
  | k + 1, h => by
    obtain ⟨x, hx, e⟩ := between ht hb hl hl' k (by omega)
    obtain ⟨y, hy, e2⟩ := next_truth ht hb (distL t.bs.length x l').toNat hx hl' (by omega) (by omega)
    exact ⟨y, hy, by omega⟩

theorem ways_in {t : Tw} (ht : t.OK) {b : Nat} (hb : b < t.bs.length) (hD : docA t ≠ []) (k : Int) : decide (0 < waysN t b 0 k) = wI k (hullD ((docA t).map fun l => l.getD b 0)).1 (hullD ((docA t).map fun l => l.getD b 0)).2 := by
  have hne : ((docA t).map fun l => l.getD b 0) ≠ [] := by simpa using hD
  obtain ⟨m1, m2⟩ := hullD_min hne
  obtain ⟨m3, m4⟩ := hullD_max hne
  rw [waysN_pos ht b hb, Bool.eq_iff_iff, List.any_eq_true]
  unfold wI
  rw [decide_eq_true_iff]
  constructor
  · rintro ⟨l, hl, e⟩
    have e : l.getD b 0 = k := by simpa using e
    have hm : k ∈ (docA t).map fun l => l.getD b 0 := List.mem_map.2 ⟨l, hl, e⟩
    exact ⟨m2 _ hm, m4 _ hm⟩
  · rintro ⟨h1, h2⟩
    obtain ⟨l, hl, e⟩ := List.mem_map.1 m1
    obtain ⟨l', hl', e'⟩ := List.mem_map.1 m3
    obtain ⟨x, hx, ex⟩ := between ht hb ((mem_docA ht).1 hl) ((mem_docA ht).1 hl') (k - l.getD b 0).toNat (by omega)
    exact ⟨x, (mem_docA ht).2 hx, by rw [beq_iff_eq, ex]; omega⟩

/-- The truths of the first numbers. -/
def sumW (t : Tw) (b : Nat) (lo : Int) : Nat → Int
  | 0 => 0
  | k + 1 => sumW t b lo k + waysN t b 0 (lo + k)
theorem sumW_eq {t : Tw} (ht : t.OK) {b : Nat} (hb : b < t.bs.length) (lo : Int) : ∀ k, sumW t b lo k = ((docA t).countP fun l => decide (lo ≤ l.getD b 0 ∧ l.getD b 0 < lo + k) : Nat)
  | 0 => by
    have : (docA t).countP (fun l => decide (lo ≤ l.getD b 0 ∧ l.getD b 0 < lo + ((0 : Nat) : Int))) = 0 := by
      rw [List.countP_eq_zero]
      intro l _
      simp
    rw [this]; rfl
  | k + 1 => by
    simp only [sumW]
    rw [sumW_eq ht hb lo k]
    unfold waysN
    rw [truthsA_one ht b hb, ← List.countP_eq_length_filter]
    have key : ∀ L : List (List Int), L.countP (fun l => decide (lo ≤ l.getD b 0 ∧ l.getD b 0 < lo + ((k + 1 : Nat) : Int))) = L.countP (fun l => decide (lo ≤ l.getD b 0 ∧ l.getD b 0 < lo + (k : Int))) + L.countP (fun l => l.getD b 0 == lo + (k : Int)) := by
      intro L
      induction L with
      | nil => rfl
      | cons l L ih =>
        simp only [List.countP_cons, ih]
        generalize l.getD b 0 = x
        have hA : decide (lo ≤ x ∧ x < lo + ((k + 1 : Nat) : Int)) = (decide (lo ≤ x ∧ x < lo + (k : Int)) || (x == lo + (k : Int))) := by
          rw [Bool.eq_iff_iff, Bool.or_eq_true, decide_eq_true_iff, decide_eq_true_iff, beq_iff_eq]
          omega
        have hB : decide (lo ≤ x ∧ x < lo + (k : Int)) = true → (x == lo + (k : Int)) = false := by
          rw [decide_eq_true_iff, beq_eq_false_iff_ne]
          omega
        rw [hA]
        cases hC : decide (lo ≤ x ∧ x < lo + (k : Int))
        · cases hE : (x == lo + (k : Int))
          · simp
          · simp; omega
        · rw [hB hC]
          simp
          omega
    rw [key]
    omega
theorem sumW_all {t : Tw} (ht : t.OK) {b : Nat} {x : B} (hx : t.bs[b]? = some x) : sumW t b (words x).1 ((words x).2 - (words x).1 + 1).toNat = (docA t).length := by
  have hb := (List.getElem?_eq_some_iff.1 hx).1
  rw [sumW_eq ht hb]
  congr 1
  rw [List.countP_eq_length]
  intro l hl
  have := ((mem_docA ht).1 hl).word b x hx
  have := words_bound t ht (List.mem_of_getElem? hx)
  rw [decide_eq_true_iff]
  omega
end Go.Proofs.Yticdacdflemoiaa
