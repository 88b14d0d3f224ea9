/- Proved here: laws that the statements need (BoY1). No conditions but those that each law states. -/
import Derived.Test.YtafcdpmcmmfbhaaDoorBO

set_option linter.unusedSimpArgs false
set_option linter.unusedVariables false

/- The document's lists of places: plain laws. -/
namespace Go.Proofs.YtafcdpmcmmfbhaaDoor
open Go Go.Ab

/-! ### Lists, as the document writes them -/
def everyL (b : Bo) (row : Nat) : List Nat := (List.range b.N).filter fun p => decide (row * b.W ≤ p)
def hitB (b : Bo) (fr : List Nat) (st p : Nat) : Bool := fr.any fun q => decide (dist b q p ≤ st)
def nearL (b : Bo) (l fr : List Nat) (st : Nat) : List Nat := l.filter (hitB b fr st)
def withinL (b : Bo) (l : List Nat) (s : Si) : List Nat := l.filter (inB b s)
/-- From the first sighting on: what can be, and when. -/
def fwdL (b : Bo) (all : List Nat) (sp : Nat) : List Si → List Nat × Nat → List Nat × Nat
  | [], st => st
  | s :: l, st => fwdL b all sp l (withinL b (nearL b all st.1 (sp * (s.minute.toNat - st.2))) s, s.minute.toNat)
def bwdL (b : Bo) (all : List Nat) (sp : Nat) : List Si → List Nat × Nat → List Nat × Nat
  | [], st => st
  | s :: l, st => bwdL b all sp l (withinL b (nearL b all st.1 (sp * (st.2 - s.minute.toNat))) s, s.minute.toNat)
def earlyL (l : List Si) (m : Nat) : List Si := l.takeWhile fun s => decide (s.minute ≤ m)
def lateL (l : List Si) (m : Nat) : List Si := (l.reverse).takeWhile fun s => decide ((m : Int) ≤ s.minute)
def refP (b : Bo) (l : List Si) (m row : Nat) : List Nat :=
  let all := everyL b row
  let f := fwdL b all b.speed.toNat (earlyL l m) (all, 0)
  let g := bwdL b all b.speed.toNat (lateL l m) (all, b.L)
  nearL b (nearL b all f.1 (b.speed.toNat * (m - f.2))) g.1 (b.speed.toNat * (g.2 - m))

theorem hit_iff {b : Bo} {fr : List Nat} {st p : Nat} : hitB b fr st p = true ↔ ∃ q ∈ fr, dist b q p ≤ st := by
  unfold hitB; rw [List.any_eq_true]; simp only [decide_eq_true_eq]
theorem every_mem {b : Bo} (hb : b.OK) {row p : Nat} : p ∈ everyL b row ↔ p < b.N ∧ row ≤ p / b.W := by
  unfold everyL
  rw [List.mem_filter, List.mem_range, decide_eq_true_eq, Nat.le_div_iff_mul_le (by have := hb.W; omega)]

/-! ### Ways between places -/
theorem midway {b : Bo} (hb : b.OK) {i j row a c : Nat} (hi : i < b.N) (hj : j < b.N) (ri : row ≤ i / b.W) (rj : row ≤ j / b.W) (h : dist b i j ≤ a + c) : ∃ u, u < b.N ∧ row ≤ u / b.W ∧ dist b i u ≤ a ∧ dist b u j ≤ c := by
  obtain ⟨c1, r1⟩ := row_lt hb hi
  obtain ⟨c2, r2⟩ := row_lt hb hj
  have hW := hb.W
  unfold dist at h
  have mk : ∀ x y, x < b.W → y < b.D → (y * b.W + x) < b.N ∧ (y * b.W + x) % b.W = x ∧ (y * b.W + x) / b.W = y := fun x y hx hy => by
    refine ⟨?_, ?_, ?_⟩
    · unfold Bo.N
      have h3 : (y + 1) * b.W ≤ b.D * b.W := Nat.mul_le_mul_right _ hy
      rw [Nat.add_mul] at h3
      rw [Nat.mul_comm b.W b.D]
      omega
    · rw [Nat.mul_comm, Nat.mul_add_mod, Nat.mod_eq_of_lt hx]
    · rw [Nat.mul_comm, Nat.mul_add_div (by omega), Nat.div_eq_of_lt hx]; omega
  have : ∃ x y, x < b.W ∧ y < b.D ∧ row ≤ y ∧ (i % b.W - x) + (x - i % b.W) + ((i / b.W - y) + (y - i / b.W)) ≤ a ∧ (x - j % b.W) + (j % b.W - x) + ((y - j / b.W) + (j / b.W - y)) ≤ c := by
    generalize i % b.W = xi at *
    generalize j % b.W = xj at *
    generalize i / b.W = yi at *
    generalize j / b.W = yj at *
    by_cases k1 : xi ≤ xj
    · by_cases k2 : xj - xi ≤ a
      · by_cases k3 : yi ≤ yj
        · exact ⟨xj, min yj (yi + (a - (xj - xi))), by omega, by omega, by omega, by omega, by omega⟩
        · exact ⟨xj, max yj (yi - (a - (xj - xi))), by omega, by omega, by omega, by omega, by omega⟩
      · exact ⟨xi + a, yi, by omega, by omega, by omega, by omega, by omega⟩
    · by_cases k2 : xi - xj ≤ a
      · by_cases k3 : yi ≤ yj
        · exact ⟨xj, min yj (yi + (a - (xi - xj))), by omega, by omega, by omega, by omega, by omega⟩
        · exact ⟨xj, max yj (yi - (a - (xi - xj))), by omega, by omega, by omega, by omega, by omega⟩
      · exact ⟨xi - a, yi, by omega, by omega, by omega, by omega, by omega⟩
  obtain ⟨x, y, hx, hy, hr, h1, h2⟩ := this
  obtain ⟨m1, m2, m3⟩ := mk x y hx hy
  refine ⟨y * b.W + x, m1, by rw [m3]; exact hr, ?_, ?_⟩
  · unfold dist; rw [m2, m3]; exact h1
  · unfold dist; rw [m2, m3]; exact h2
/-- A way in some minutes. -/
theorem way {b : Bo} (hb : b.OK) {row s : Nat} : ∀ (t i j : Nat), i < b.N → j < b.N → row ≤ i / b.W → row ≤ j / b.W → dist b i j ≤ s * t → ∃ f : Nat → Nat, f 0 = i ∧ f t = j ∧ (∀ k ≤ t, f k < b.N ∧ row ≤ f k / b.W) ∧ ∀ k < t, dist b (f k) (f (k + 1)) ≤ s
  | 0, i, j, hi, hj, ri, rj, h => by
    have e : i = j := dist_zero (b := b) (by rw [Nat.mul_zero] at h; omega)
    subst e
    exact ⟨fun _ => i, rfl, rfl, fun _ _ => ⟨hi, ri⟩, fun k hk => by omega⟩
  | t + 1, i, j, hi, hj, ri, rj, h => by
    obtain ⟨u, hu, ru, d1, d2⟩ := midway hb (a := s * t) (c := s) hi hj ri rj (by rw [Nat.mul_add, Nat.mul_one] at h; exact h)
    obtain ⟨f, f0, ft, f1, f2⟩ := way hb t i u hi hu ri ru d1
    refine ⟨fun k => if k ≤ t then f k else j, by simp [f0], if_neg (by omega), fun k hk => ?_, fun k hk => ?_⟩
    · by_cases c : k ≤ t
      · simp only [if_pos c]; exact f1 k c
      · simp only [if_neg c]; exact ⟨hj, rj⟩
    · by_cases c : k < t
      · simp only [if_pos (show k ≤ t by omega), if_pos (show k + 1 ≤ t by omega)]; exact f2 k c
      · have : k = t := by omega
        subst this
        simp only [Nat.le_refl, if_true, if_neg (show ¬ k + 1 ≤ k by omega)]
        rw [ft]; exact d2
theorem far_way {b : Bo} {c : Nat → Nat} {s : Nat} : ∀ (t a : Nat), (∀ k, a ≤ k → k < a + t → dist b (c k) (c (k + 1)) ≤ s) → dist b (c a) (c (a + t)) ≤ s * t
  | 0, a, _ => by rw [Nat.add_zero, dist_self]; exact Nat.zero_le _
  | t + 1, a, h => by
    have h1 := far_way t a fun k h1 h2 => h k h1 (by omega)
    have h2 := h (a + t) (by omega) (by omega)
    have h3 := dist_tri b (c a) (c (a + t)) (c (a + t + 1))
    rw [Nat.mul_add, Nat.mul_one, show a + (t + 1) = a + t + 1 by omega]
    omega

/-! ### What the passes find -/
/-- A course in some minutes, held to some sightings. -/
structure Crs (b : Bo) (row : Nat) (l : List Si) (m0 m1 : Nat) (c : Nat → Nat) : Prop where
  lt : ∀ k, m0 ≤ k → k ≤ m1 → c k < b.N
  row : ∀ k, m0 ≤ k → k ≤ m1 → row ≤ c k / b.W
  saw : ∀ s ∈ l, inB b s (c s.minute.toNat) = true
  near : ∀ k, m0 ≤ k → k < m1 → dist b (c k) (c (k + 1)) ≤ b.speed.toNat
theorem fwd_near {b : Bo} (hb : b.OK) {row t u : Nat} {done : List Si} {can : List Nat} (htu : t ≤ u) (h0 : ∀ s ∈ done, 0 ≤ s.minute ∧ s.minute ≤ (t : Int)) (h : ∀ p, p ∈ can ↔ ∃ c, Crs b row done 0 t c ∧ c t = p) (p : Nat) : p ∈ nearL b (everyL b row) can (b.speed.toNat * (u - t)) ↔ ∃ c, Crs b row done 0 u c ∧ c u = p := by
  unfold nearL
  rw [List.mem_filter, every_mem hb, hit_iff]
  constructor
  · rintro ⟨⟨k1, k2⟩, q, hq, hd⟩
    obtain ⟨c, hc, rfl⟩ := (h q).1 hq
    obtain ⟨f, f0, ft, f1, f2⟩ := way hb (u - t) (c t) p (hc.lt t (Nat.zero_le _) (Nat.le_refl _)) k1 (hc.row t (Nat.zero_le _) (Nat.le_refl _)) k2 hd
    refine ⟨fun k => if k ≤ t then c k else f (k - t), ⟨fun k _ hk => ?_, fun k _ hk => ?_, fun s' hs' => ?_, fun k _ hk => ?_⟩, ?_⟩
    · by_cases c1 : k ≤ t
      · simp only [if_pos c1]; exact hc.lt k (Nat.zero_le _) c1
      · simp only [if_neg c1]; exact (f1 _ (by omega)).1
    · by_cases c1 : k ≤ t
      · simp only [if_pos c1]; exact hc.row k (Nat.zero_le _) c1
      · simp only [if_neg c1]; exact (f1 _ (by omega)).2
    · have := h0 s' hs'
      simp only [if_pos (show s'.minute.toNat ≤ t by omega)]
      exact hc.saw s' hs'
    · by_cases c1 : k < t
      · simp only [if_pos (show k ≤ t by omega), if_pos (show k + 1 ≤ t by omega)]; exact hc.near k (Nat.zero_le _) c1
      · by_cases c2 : k = t
        · subst c2
          simp only [Nat.le_refl, if_true, if_neg (show ¬ k + 1 ≤ k by omega)]
          have := f2 0 (by omega)
          rw [f0] at this
          rw [show k + 1 - k = 0 + 1 by omega]; exact this
        · simp only [if_neg (show ¬ k ≤ t by omega), if_neg (show ¬ k + 1 ≤ t by omega)]
          have := f2 (k - t) (by omega)
          rwa [show k - t + 1 = k + 1 - t by omega] at this
    · by_cases c1 : u ≤ t
      · have : u = t := by omega
        subst this
        simp only [Nat.le_refl, if_true]
        rw [Nat.sub_self, f0] at ft
        exact ft
      · simp only [if_neg c1]; exact ft
  · rintro ⟨c, hc, rfl⟩
    refine ⟨⟨hc.lt u (Nat.zero_le _) (Nat.le_refl _), hc.row u (Nat.zero_le _) (Nat.le_refl _)⟩, c t, (h _).2 ⟨c, ⟨fun k h3 h4 => hc.lt k h3 (by omega), fun k h3 h4 => hc.row k h3 (by omega), hc.saw, fun k h3 h4 => hc.near k h3 (by omega)⟩, rfl⟩, ?_⟩
    have := far_way (b := b) (c := c) (s := b.speed.toNat) (u - t) t fun k h3 h4 => hc.near k (Nat.zero_le _) (by omega)
    rwa [show t + (u - t) = u by omega] at this
theorem fwd_spec {b : Bo} (hb : b.OK) (row : Nat) : ∀ (l done : List Si) (can : List Nat) (t : Nat), (∀ s ∈ done, 0 ≤ s.minute ∧ s.minute ≤ (t : Int)) → (∀ s ∈ l, (t : Int) ≤ s.minute) → l.Pairwise (fun a c => a.minute ≤ c.minute) →
    (∀ p, p ∈ can ↔ ∃ c, Crs b row done 0 t c ∧ c t = p) →
    (∀ p, p ∈ (fwdL b (everyL b row) b.speed.toNat l (can, t)).1 ↔ ∃ c, Crs b row (done ++ l) 0 (fwdL b (everyL b row) b.speed.toNat l (can, t)).2 c ∧ c (fwdL b (everyL b row) b.speed.toNat l (can, t)).2 = p) ∧ (∀ s ∈ done ++ l, 0 ≤ s.minute ∧ s.minute ≤ ((fwdL b (everyL b row) b.speed.toNat l (can, t)).2 : Int)) ∧ t ≤ (fwdL b (everyL b row) b.speed.toNat l (can, t)).2 ∧ ∀ m, t ≤ m → (∀ s ∈ l, s.minute ≤ (m : Int)) → (fwdL b (everyL b row) b.speed.toNat l (can, t)).2 ≤ m
  | [], done, can, t, h0, _, _, h => by
    show (∀ p, p ∈ can ↔ ∃ c, Crs b row (done ++ []) 0 t c ∧ c t = p) ∧ (∀ s ∈ done ++ [], 0 ≤ s.minute ∧ s.minute ≤ (t : Int)) ∧ t ≤ t ∧ ∀ m, t ≤ m → _ → t ≤ m
    rw [List.append_nil]; exact ⟨h, h0, Nat.le_refl _, fun m h _ => h⟩
  | s :: l, done, can, t, h0, h1, h2, h => by
    rw [List.pairwise_cons] at h2
    have hs := h1 s (List.mem_cons_self ..)
    obtain ⟨u, hu⟩ : ∃ u : Nat, s.minute = u := ⟨s.minute.toNat, by omega⟩
    have hut : s.minute.toNat = u := by omega
    have htu : t ≤ u := by omega
    have key : ∀ p, p ∈ withinL b (nearL b (everyL b row) can (b.speed.toNat * (u - t))) s ↔ ∃ c, Crs b row (done ++ [s]) 0 u c ∧ c u = p := fun p => by
      unfold withinL
      rw [List.mem_filter, fwd_near hb htu h0 h]
      constructor
      · rintro ⟨⟨c, hc, rfl⟩, k3⟩
        refine ⟨c, ⟨hc.lt, hc.row, fun s' hs' => ?_, hc.near⟩, rfl⟩
        rcases List.mem_append.1 hs' with hs' | hs'
        · exact hc.saw s' hs'
        · rw [List.mem_singleton] at hs'
          subst hs'
          rw [hut]; exact k3
      · rintro ⟨c, hc, rfl⟩
        refine ⟨⟨c, ⟨hc.lt, hc.row, fun s' hs' => hc.saw s' (List.mem_append.2 (.inl hs')), hc.near⟩, rfl⟩, ?_⟩
        have := hc.saw s (List.mem_append.2 (.inr (List.mem_singleton.2 rfl)))
        rwa [hut] at this
    have ih := fwd_spec hb row l (done ++ [s]) (withinL b (nearL b (everyL b row) can (b.speed.toNat * (u - t))) s) u (fun s' hs' => by
      rcases List.mem_append.1 hs' with hs' | hs'
      · have := h0 s' hs'; omega
      · rw [List.mem_singleton] at hs'; subst hs'; omega) (fun s' hs' => by rw [← hu]; exact h2.1 s' hs') h2.2 key
    rw [List.append_assoc, List.singleton_append] at ih
    have hd : fwdL b (everyL b row) b.speed.toNat (s :: l) (can, t) = fwdL b (everyL b row) b.speed.toNat l (withinL b (nearL b (everyL b row) can (b.speed.toNat * (u - t))) s, u) := by
      show fwdL b _ _ l (withinL b (nearL b _ can (b.speed.toNat * (s.minute.toNat - t))) s, s.minute.toNat) = _
      rw [hut]
    rw [hd]
    refine ⟨ih.1, ih.2.1, by have := ih.2.2.1; omega, fun m hm hl => ih.2.2.2 m ?_ fun s' hs' => hl s' (List.mem_cons_of_mem _ hs')⟩
    have := hl s (List.mem_cons_self ..)
    omega
theorem bwd_near {b : Bo} (hb : b.OK) {row t u e : Nat} {done : List Si} {can : List Nat} (htu : u ≤ t) (hte : t ≤ e) (h0 : ∀ s ∈ done, (t : Int) ≤ s.minute ∧ s.minute ≤ (e : Int)) (h : ∀ p, p ∈ can ↔ ∃ c, Crs b row done t e c ∧ c t = p) (l : List Nat) (p : Nat) (hl : p ∈ l → p < b.N ∧ row ≤ p / b.W) : p ∈ nearL b l can (b.speed.toNat * (t - u)) ↔ p ∈ l ∧ ∃ c, Crs b row done u e c ∧ c u = p := by
  unfold nearL
  rw [List.mem_filter, hit_iff]
  refine and_congr_right fun hp => ?_
  obtain ⟨k1, k2⟩ := hl hp
  constructor
  · rintro ⟨q, hq, hd⟩
    obtain ⟨c, hc, rfl⟩ := (h q).1 hq
    rw [dist_comm] at hd
    obtain ⟨f, f0, ft, f1, f2⟩ := way hb (t - u) p (c t) k1 (hc.lt t (Nat.le_refl _) hte) k2 (hc.row t (Nat.le_refl _) hte) hd
    refine ⟨fun k => if t ≤ k then c k else f (k - u), ⟨fun k hk1 hk => ?_, fun k hk1 hk => ?_, fun s' hs' => ?_, fun k hk1 hk => ?_⟩, ?_⟩
    · by_cases c1 : t ≤ k
      · simp only [if_pos c1]; exact hc.lt k c1 hk
      · simp only [if_neg c1]; exact (f1 _ (by omega)).1
    · by_cases c1 : t ≤ k
      · simp only [if_pos c1]; exact hc.row k c1 hk
      · simp only [if_neg c1]; exact (f1 _ (by omega)).2
    · have := h0 s' hs'
      simp only [if_pos (show t ≤ s'.minute.toNat by omega)]
      exact hc.saw s' hs'
    · by_cases c1 : t ≤ k
      · simp only [if_pos c1, if_pos (show t ≤ k + 1 by omega)]; exact hc.near k c1 hk
      · by_cases c2 : k + 1 = t
        · simp only [if_neg c1, if_pos (show t ≤ k + 1 by omega)]
          have := f2 (k - u) (by omega)
          rw [show k - u + 1 = t - u by omega, ft] at this
          rw [c2]; exact this
        · simp only [if_neg c1, if_neg (show ¬ t ≤ k + 1 by omega)]
          have := f2 (k - u) (by omega)
          rwa [show k - u + 1 = k + 1 - u by omega] at this
    · by_cases c1 : t ≤ u
      · have : u = t := by omega
        subst this
        simp only [Nat.le_refl, if_true]
        rw [Nat.sub_self, f0] at ft
        exact ft.symm
      · simp only [if_neg c1]; rw [Nat.sub_self]; exact f0
  · rintro ⟨c, hc, rfl⟩
    refine ⟨c t, (h _).2 ⟨c, ⟨fun k h3 h4 => hc.lt k (by omega) h4, fun k h3 h4 => hc.row k (by omega) h4, hc.saw, fun k h3 h4 => hc.near k (by omega) h4⟩, rfl⟩, ?_⟩
    have := far_way (b := b) (c := c) (s := b.speed.toNat) (t - u) u fun k h3 h4 => hc.near k h3 (by omega)
    rw [show u + (t - u) = t by omega, dist_comm] at this
    exact this
theorem bwd_spec {b : Bo} (hb : b.OK) (row e : Nat) : ∀ (l done : List Si) (can : List Nat) (t : Nat), t ≤ e → (∀ s ∈ done, (t : Int) ≤ s.minute ∧ s.minute ≤ (e : Int)) → (∀ s ∈ l, 0 ≤ s.minute ∧ s.minute ≤ (t : Int)) → l.Pairwise (fun a c => c.minute ≤ a.minute) →
    (∀ p, p ∈ can ↔ ∃ c, Crs b row done t e c ∧ c t = p) →
    (∀ p, p ∈ (bwdL b (everyL b row) b.speed.toNat l (can, t)).1 ↔ ∃ c, Crs b row (done ++ l) (bwdL b (everyL b row) b.speed.toNat l (can, t)).2 e c ∧ c (bwdL b (everyL b row) b.speed.toNat l (can, t)).2 = p) ∧ (∀ s ∈ done ++ l, ((bwdL b (everyL b row) b.speed.toNat l (can, t)).2 : Int) ≤ s.minute ∧ s.minute ≤ (e : Int)) ∧ (bwdL b (everyL b row) b.speed.toNat l (can, t)).2 ≤ t ∧ ∀ m, m ≤ t → (∀ s ∈ l, (m : Int) ≤ s.minute) → m ≤ (bwdL b (everyL b row) b.speed.toNat l (can, t)).2
  | [], done, can, t, _, h0, _, _, h => by
    show (∀ p, p ∈ can ↔ ∃ c, Crs b row (done ++ []) t e c ∧ c t = p) ∧ (∀ s ∈ done ++ [], (t : Int) ≤ s.minute ∧ s.minute ≤ (e : Int)) ∧ t ≤ t ∧ ∀ m, m ≤ t → _ → m ≤ t
    rw [List.append_nil]; exact ⟨h, h0, Nat.le_refl _, fun m h _ => h⟩
  | s :: l, done, can, t, hte, h0, h1, h2, h => by
    rw [List.pairwise_cons] at h2
    have hs := h1 s (List.mem_cons_self ..)
    obtain ⟨u, hu⟩ : ∃ u : Nat, s.minute = u := ⟨s.minute.toNat, by omega⟩
    have hut : s.minute.toNat = u := by omega
    have htu : u ≤ t := by omega
    have key : ∀ p, p ∈ withinL b (nearL b (everyL b row) can (b.speed.toNat * (t - u))) s ↔ ∃ c, Crs b row (done ++ [s]) u e c ∧ c u = p := fun p => by
      unfold withinL
      rw [List.mem_filter, bwd_near hb htu hte h0 h (everyL b row) p fun hp => (every_mem hb).1 hp]
      constructor
      · rintro ⟨⟨_, c, hc, rfl⟩, k3⟩
        refine ⟨c, ⟨hc.lt, hc.row, fun s' hs' => ?_, hc.near⟩, rfl⟩
        rcases List.mem_append.1 hs' with hs' | hs'
        · exact hc.saw s' hs'
        · rw [List.mem_singleton] at hs'
          subst hs'
          rw [hut]; exact k3
      · rintro ⟨c, hc, rfl⟩
        refine ⟨⟨(every_mem hb).2 ⟨hc.lt u (Nat.le_refl _) (by omega), hc.row u (Nat.le_refl _) (by omega)⟩, c, ⟨hc.lt, hc.row, fun s' hs' => hc.saw s' (List.mem_append.2 (.inl hs')), hc.near⟩, rfl⟩, ?_⟩
        have := hc.saw s (List.mem_append.2 (.inr (List.mem_singleton.2 rfl)))
        rwa [hut] at this
    have ih := bwd_spec hb row e l (done ++ [s]) (withinL b (nearL b (everyL b row) can (b.speed.toNat * (t - u))) s) u (by omega) (fun s' hs' => by
      rcases List.mem_append.1 hs' with hs' | hs'
      · have := h0 s' hs'; omega
      · rw [List.mem_singleton] at hs'; subst hs'; omega) (fun s' hs' => by
        have := h2.1 s' hs'
        have := h1 s' (List.mem_cons_of_mem _ hs')
        omega) h2.2 key
    rw [List.append_assoc, List.singleton_append] at ih
    have hd : bwdL b (everyL b row) b.speed.toNat (s :: l) (can, t) = bwdL b (everyL b row) b.speed.toNat l (withinL b (nearL b (everyL b row) can (b.speed.toNat * (t - u))) s, u) := by
      show bwdL b _ _ l (withinL b (nearL b _ can (b.speed.toNat * (t - s.minute.toNat))) s, s.minute.toNat) = _
      rw [hut]
    rw [hd]
    refine ⟨ih.1, ih.2.1, by have := ih.2.2.1; omega, fun m hm hl => ih.2.2.2 m ?_ fun s' hs' => hl s' (List.mem_cons_of_mem _ hs')⟩
    have := hl s (List.mem_cons_self ..)
    omega
theorem early_mem {m : Nat} {s : Si} : ∀ {l : List Si}, l.Pairwise (fun a c => a.minute ≤ c.minute) → (s ∈ earlyL l m ↔ s ∈ l ∧ s.minute ≤ m)
  | [], _ => by simp [earlyL]
  | x :: l, h => by
    rw [List.pairwise_cons] at h
    have ih := early_mem (m := m) (s := s) h.2
    unfold earlyL at ih ⊢
    rw [List.takeWhile_cons]
    by_cases c : x.minute ≤ m
    · rw [if_pos (decide_eq_true c), List.mem_cons, ih, List.mem_cons]
      constructor
      · rintro (rfl | ⟨h1, h2⟩)
        · exact ⟨.inl rfl, c⟩
        · exact ⟨.inr h1, h2⟩
      · rintro ⟨rfl | h1, h2⟩
        · exact .inl rfl
        · exact .inr ⟨h1, h2⟩
    · rw [if_neg (by simpa using c)]
      constructor
      · intro h; cases h
      · rintro ⟨h1, h2⟩
        rcases List.mem_cons.1 h1 with rfl | h1
        · exact absurd h2 c
        · have := h.1 s h1; omega
theorem late_mem' {m : Nat} {s : Si} : ∀ {l : List Si}, l.Pairwise (fun a c => c.minute ≤ a.minute) → (s ∈ l.takeWhile (fun s => decide ((m : Int) ≤ s.minute)) ↔ s ∈ l ∧ (m : Int) ≤ s.minute)
  | [], _ => by simp
  | x :: l, h => by
    rw [List.pairwise_cons] at h
    have ih := late_mem' (m := m) (s := s) h.2
    rw [List.takeWhile_cons]
    by_cases c : (m : Int) ≤ x.minute
    · rw [if_pos (decide_eq_true c), List.mem_cons, ih, List.mem_cons]
      constructor
      · rintro (rfl | ⟨h1, h2⟩)
        · exact ⟨.inl rfl, c⟩
        · exact ⟨.inr h1, h2⟩
      · rintro ⟨rfl | h1, h2⟩
        · exact .inl rfl
        · exact .inr ⟨h1, h2⟩
    · rw [if_neg (by simpa using c)]
      constructor
      · intro h; cases h
      · rintro ⟨h1, h2⟩
        rcases List.mem_cons.1 h1 with rfl | h1
        · exact absurd h2 c
        · have := h.1 s h1; omega
theorem late_mem {m : Nat} {s : Si} {l : List Si} (h : l.Pairwise (fun a c => a.minute ≤ c.minute)) : s ∈ lateL l m ↔ s ∈ l ∧ (m : Int) ≤ s.minute := by
  unfold lateL
  rw [late_mem' (List.pairwise_reverse.2 h), List.mem_reverse]
theorem take_sub {α : Type} (p : α → Bool) (l : List α) : (l.takeWhile p).Sublist l := List.takeWhile_sublist p
/-- What the document finds: where a boat is in some truth. -/
theorem refP_mem {b : Bo} (hb : b.OK) {l : List Si} (hl : sawB b 0 l = true) {m row : Nat} (hm : m ≤ b.L) (p : Nat) : p ∈ refP b l m row ↔ ∃ c, Crs b row l 0 b.L c ∧ c m = p := by
  have hLb := hb.L
  obtain ⟨hO, hP⟩ := (saw_iff (Int.le_refl 0)).1 hl
  have hmin : ∀ s ∈ l, 0 ≤ s.minute ∧ s.minute ≤ (b.L : Int) := fun s hs => by have := (hO s hs).1.min; omega
  have hE : ∀ s, s ∈ earlyL l m ↔ s ∈ l ∧ s.minute ≤ m := fun s => early_mem hP
  have hA : ∀ s, s ∈ lateL l m ↔ s ∈ l ∧ (m : Int) ≤ s.minute := fun s => late_mem hP
  have hPe : (earlyL l m).Pairwise (fun a c => a.minute ≤ c.minute) := hP.sublist (take_sub _ _)
  have hPl : (lateL l m).Pairwise (fun a c => c.minute ≤ a.minute) := (List.pairwise_reverse.2 hP).sublist (take_sub _ _)
  obtain ⟨f1, f2, f3, f4⟩ := fwd_spec hb row (earlyL l m) [] (everyL b row) 0 (by simp) (fun s hs => (hmin s ((hE s).1 hs).1).1) hPe (fun p => by
    rw [every_mem hb]
    constructor
    · rintro ⟨h1, h2⟩
      exact ⟨fun _ => p, ⟨fun _ _ _ => h1, fun _ _ _ => h2, by simp, fun k _ hk => by omega⟩, rfl⟩
    · rintro ⟨c, hc, rfl⟩
      exact ⟨hc.lt 0 (Nat.le_refl _) (Nat.le_refl _), hc.row 0 (Nat.le_refl _) (Nat.le_refl _)⟩)
  have f5 := f4 m (Nat.zero_le _) fun s hs => ((hE s).1 hs).2
  obtain ⟨g1, g2, g3, g4⟩ := bwd_spec hb row b.L (lateL l m) [] (everyL b row) b.L (Nat.le_refl _) (by simp) (fun s hs => hmin s ((hA s).1 hs).1) hPl (fun p => by
    rw [every_mem hb]
    constructor
    · rintro ⟨h1, h2⟩
      exact ⟨fun _ => p, ⟨fun _ _ _ => h1, fun _ _ _ => h2, by simp, fun k h1 hk => by omega⟩, rfl⟩
    · rintro ⟨c, hc, rfl⟩
      exact ⟨hc.lt b.L (Nat.le_refl _) (Nat.le_refl _), hc.row b.L (Nat.le_refl _) (Nat.le_refl _)⟩)
  have g5 := g4 m hm fun s hs => ((hA s).1 hs).2
  rw [List.nil_append] at f1 f2 g1 g2
  unfold refP
  simp only
  rw [bwd_near hb g5 g3 g2 g1 _ p (fun hp => by
    obtain ⟨c, hc, rfl⟩ := (fwd_near hb f5 f2 f1 p).1 hp
    exact ⟨hc.lt m (Nat.zero_le _) (Nat.le_refl _), hc.row m (Nat.zero_le _) (Nat.le_refl _)⟩), fwd_near hb f5 f2 f1]
  constructor
  · rintro ⟨⟨c, hc, rfl⟩, d, hd, e⟩
    refine ⟨fun k => if k ≤ m then c k else d k, ⟨fun k _ hk => ?_, fun k _ hk => ?_, fun s hs => ?_, fun k _ hk => ?_⟩, if_pos (Nat.le_refl _)⟩
    · by_cases c1 : k ≤ m
      · simp only [if_pos c1]; exact hc.lt k (Nat.zero_le _) c1
      · simp only [if_neg c1]; exact hd.lt k (by omega) hk
    · by_cases c1 : k ≤ m
      · simp only [if_pos c1]; exact hc.row k (Nat.zero_le _) c1
      · simp only [if_neg c1]; exact hd.row k (by omega) hk
    · by_cases c1 : s.minute ≤ m
      · simp only [if_pos (show s.minute.toNat ≤ m by omega)]
        exact hc.saw s ((hE s).2 ⟨hs, c1⟩)
      · simp only [if_neg (show ¬ s.minute.toNat ≤ m by omega)]
        exact hd.saw s ((hA s).2 ⟨hs, by omega⟩)
    · by_cases c1 : k < m
      · simp only [if_pos (show k ≤ m by omega), if_pos (show k + 1 ≤ m by omega)]; exact hc.near k (Nat.zero_le _) c1
      · by_cases c2 : k = m
        · subst c2
          simp only [Nat.le_refl, if_true, if_neg (show ¬ k + 1 ≤ k by omega)]
          rw [← e]; exact hd.near k (Nat.le_refl _) hk
        · simp only [if_neg (show ¬ k ≤ m by omega), if_neg (show ¬ k + 1 ≤ m by omega)]; exact hd.near k (by omega) hk
  · rintro ⟨c, hc, rfl⟩
    exact ⟨⟨c, ⟨fun k h1 h2 => hc.lt k h1 (by omega), fun k h1 h2 => hc.row k h1 (by omega), fun s hs => hc.saw s ((hE s).1 hs).1, fun k h1 h2 => hc.near k h1 (by omega)⟩, rfl⟩, c, ⟨fun k h1 h2 => hc.lt k (by omega) h2, fun k h1 h2 => hc.row k (by omega) h2, fun s hs => hc.saw s ((hA s).1 hs).1, fun k h1 h2 => hc.near k (by omega) h2⟩, rfl⟩
/-- The document's places are the program's. -/
theorem refP_eq {b : Bo} (hb : b.OK) {q : Qu} (hw : q.without = 0) (hs : q.speed = b.speed.toNat) (hl : sawB b 0 (seenOf b q.boat) = true) {m : Nat} (hm : m ≤ b.L) : refP b (seenOf b q.boat) m q.row = placesL (canAt b q m) b.N := by
  have hO := ((saw_iff (Int.le_refl 0)).1 hl).1
  have hmem : ∀ p, p ∈ refP b (seenOf b q.boat) m q.row ↔ (canAt b q m).testBit p = true := fun p => by
    rw [refP_mem hb hl hm, canAt_bit hb q hm]
    constructor
    · rintro ⟨c, hc, rfl⟩
      refine ⟨c, ⟨fun k h1 h2 => ⟨hc.lt k h1 h2, hc.row k h1 h2, fun s hs' e => ?_⟩, fun k h1 h2 => by rw [hs]; exact hc.near k h1 h2⟩, rfl⟩
      rw [hw, kept_nought] at hs'
      have := hc.saw s hs'
      rwa [e, Int.toNat_natCast] at this
    · rintro ⟨c, hc, rfl⟩
      refine ⟨c, ⟨fun k h1 h2 => (hc.ok k h1 h2).lt, fun k h1 h2 => (hc.ok k h1 h2).row, fun s hs' => ?_, fun k h1 h2 => by rw [← hs]; exact hc.near k h1 h2⟩, rfl⟩
      have := (hO s hs').1.min
      have hL := hb.L
      refine (hc.ok s.minute.toNat (Nat.zero_le _) (by omega)).saw s (by rw [hw, kept_nought]; exact hs') (by omega)
  have hform : refP b (seenOf b q.boat) m q.row = (List.range b.N).filter fun p => decide (p ∈ refP b (seenOf b q.boat) m q.row) := by
    generalize hR : refP b (seenOf b q.boat) m q.row = R
    have hsub : R.Sublist (List.range b.N) := by
      rw [← hR]
      unfold refP nearL everyL
      exact (List.filter_sublist ..).trans ((List.filter_sublist ..).trans (List.filter_sublist ..))
    have hnd := List.nodup_range (n := b.N)
    clear hR hmem
    generalize List.range b.N = rg at *
    induction hsub with
    | slnil => rfl
    | cons a h ih =>
      rw [List.nodup_cons] at hnd
      rw [List.filter_cons, if_neg (by simpa using fun hc => hnd.1 (h.subset hc))]
      exact ih hnd.2
    | cons_cons a h ih =>
      rename_i l1 l2
      rw [List.nodup_cons] at hnd
      rw [List.filter_cons, if_pos (by simp)]
      congr 1
      rw [show (l2.filter fun p => decide (p ∈ a :: l1)) = l2.filter fun p => decide (p ∈ l1) from List.filter_congr fun x hx => by
        rw [decide_eq_decide, List.mem_cons]
        exact ⟨fun h' => h'.resolve_left fun e => hnd.1 (e ▸ hx), .inr⟩]
      exact ih hnd.2
  rw [hform]
  unfold placesL
  refine List.filter_congr fun p hp => ?_
  rw [Bool.eq_iff_iff, decide_eq_true_eq, hmem]
end Go.Proofs.YtafcdpmcmmfbhaaDoor
