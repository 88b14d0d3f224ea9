/- Proved here: laws that the statements need (BoXE). No conditions but those that each law states. -/
import Derived.Test.YtafcdpmcmmfbhaaDoorBO

set_option linter.unusedSimpArgs false
set_option linter.unusedVariables false

/- Plain laws: columns from the other end; minutes turned round. -/
namespace Go.Proofs.YtafcdpmcmmfbhaaDoor
open Go Go.Ab

theorem saw_iff {b : Bo} : ∀ {l : List Si} {m : Int}, 0 ≤ m → (sawB b m l = true ↔ (∀ s ∈ l, s.OK b ∧ m ≤ s.minute) ∧ l.Pairwise fun a c => a.minute ≤ c.minute)
  | [], m, _ => by simp [sawB]
  | x :: l, m, hm => by
    unfold sawB
    rw [Bool.and_eq_true, okB_iff, List.pairwise_cons]
    constructor
    · rintro ⟨⟨h1, h2, h3⟩, h4⟩
      obtain ⟨h5, h6⟩ := (saw_iff (by omega)).1 h4
      refine ⟨fun s hs => ?_, fun s hs => (h5 s hs).2, h6⟩
      rcases List.mem_cons.1 hs with rfl | hs
      · exact ⟨⟨⟨by omega, h1.2⟩, h2, h3⟩, h1.1⟩
      · exact ⟨(h5 s hs).1, by have := (h5 s hs).2; omega⟩
    · rintro ⟨h1, h2, h3⟩
      obtain ⟨h4, h5⟩ := h1 x (List.mem_cons_self ..)
      exact ⟨⟨⟨h5, h4.min.2⟩, h4.col, h4.row⟩, (saw_iff h4.min.1).2 ⟨fun s hs => ⟨(h1 s (List.mem_cons_of_mem _ hs)).1, h2 s hs⟩, h3⟩⟩
def mirS (b : Bo) (s : Si) : Si := ⟨s.minute, b.wide - 1 - s.c2, b.wide - 1 - s.c1, s.r1, s.r2⟩
def revS (b : Bo) (s : Si) : Si := ⟨b.last - s.minute, s.c1, s.c2, s.r1, s.r2⟩
abbrev mirB (b : Bo) (n : Nat) : Bo := withS b [[], (seenOf b n).map (mirS b)]
abbrev revB (b : Bo) (n : Nat) : Bo := withS b [(seenOf b n).reverse.map (revS b)]
abbrev onlyB (b : Bo) (n : Nat) : Bo := withS b [seenOf b n, [], []]
theorem mirS_ok {b : Bo} {s : Si} (h : s.OK b) : (mirS b s).OK b := by
  have h1 := h.col
  refine ⟨h.min, ?_, h.row⟩
  unfold mirS
  simp only
  omega
theorem revS_ok {b : Bo} {s : Si} (h : s.OK b) : (revS b s).OK b := by
  have h1 := h.min
  refine ⟨?_, h.col, h.row⟩
  unfold revS
  simp only
  omega
theorem mirB_OK {b : Bo} (hb : b.OK) {n : Nat} (hn : n < b.seen.length) : (mirB b n).OK := by
  refine withS_OK hb (show 2 ≤ 4 by decide) fun x hx => ?_
  rcases List.mem_cons.1 hx with rfl | hx
  · exact ⟨by simp, rfl⟩
  · rw [List.mem_singleton] at hx
    subst hx
    obtain ⟨h1, h2⟩ := (saw_iff (Int.le_refl 0)).1 (hb.saw _ (seenOf_mem hn))
    refine ⟨by rw [List.length_map]; exact hb.lens _ (seenOf_mem hn), (saw_iff (Int.le_refl 0)).2 ⟨fun s hs => ?_, ?_⟩⟩
    · obtain ⟨t, ht, rfl⟩ := List.mem_map.1 hs
      exact ⟨mirS_ok (h1 t ht).1, (h1 t ht).2⟩
    · rw [List.pairwise_map]; exact h2
theorem revB_OK {b : Bo} (hb : b.OK) {n : Nat} (hn : n < b.seen.length) : (revB b n).OK := by
  refine withS_OK hb (show 1 ≤ 4 by decide) fun x hx => ?_
  rw [List.mem_singleton] at hx
  subst hx
  obtain ⟨h1, h2⟩ := (saw_iff (Int.le_refl 0)).1 (hb.saw _ (seenOf_mem hn))
  refine ⟨by rw [List.length_map, List.length_reverse]; exact hb.lens _ (seenOf_mem hn), (saw_iff (Int.le_refl 0)).2 ⟨fun s hs => ?_, ?_⟩⟩
  · obtain ⟨t, ht, rfl⟩ := List.mem_map.1 hs
    have := h1 t (List.mem_reverse.1 ht)
    exact ⟨revS_ok this.1, (revS_ok this.1).min.1⟩
  · rw [List.pairwise_map, List.pairwise_reverse]
    refine h2.imp fun {a c} h => ?_
    unfold revS; simp only; omega
theorem onlyB_OK {b : Bo} (hb : b.OK) {n : Nat} (hn : n < b.seen.length) : (onlyB b n).OK := by
  refine withS_OK hb (show 3 ≤ 4 by decide) fun x hx => ?_
  simp only [List.mem_cons, List.not_mem_nil, or_false] at hx
  rcases hx with rfl | rfl | rfl
  · exact ⟨hb.lens _ (seenOf_mem hn), hb.saw _ (seenOf_mem hn)⟩
  · exact ⟨by simp, rfl⟩
  · exact ⟨by simp, rfl⟩
/-- A place, from the other end of its row. -/
def mirP (b : Bo) (p : Nat) : Nat := p / b.W * b.W + (b.W - 1 - p % b.W)
theorem mirP_at {b : Bo} (hb : b.OK) (p : Nat) : mirP b p / b.W = p / b.W ∧ mirP b p % b.W = b.W - 1 - p % b.W := by
  have hW := hb.W
  have h1 : p % b.W < b.W := Nat.mod_lt _ (by omega)
  unfold mirP
  constructor
  · rw [Nat.mul_comm, Nat.mul_add_div (by omega), Nat.div_eq_of_lt (show b.W - 1 - p % b.W < b.W by omega)]; omega
  · rw [Nat.mul_comm, Nat.mul_add_mod, Nat.mod_eq_of_lt (by omega)]
theorem mirP_mirP {b : Bo} (hb : b.OK) (p : Nat) : mirP b (mirP b p) = p := by
  have hW := hb.W
  have h1 : p % b.W < b.W := Nat.mod_lt _ (by omega)
  obtain ⟨e1, e2⟩ := mirP_at hb p
  unfold mirP at e1 e2 ⊢
  rw [e1, e2]
  have := coord hb p
  have h2 : b.W - 1 - (b.W - 1 - p % b.W) = p % b.W := by omega
  rw [h2]
  exact this.symm
theorem mirP_lt {b : Bo} (hb : b.OK) {p : Nat} (h : p < b.N) : mirP b p < b.N := by
  have hW := hb.W
  obtain ⟨h1, h2⟩ := row_lt hb h
  unfold mirP Bo.N
  have h3 : (p / b.W + 1) * b.W ≤ b.D * b.W := Nat.mul_le_mul_right _ h2
  rw [Nat.add_mul] at h3
  rw [Nat.mul_comm b.W b.D]
  omega
theorem mirP_dist {b : Bo} (hb : b.OK) (p q : Nat) : dist b (mirP b p) (mirP b q) = dist b p q := by
  have hW := hb.W
  have h1 : p % b.W < b.W := Nat.mod_lt _ (by omega)
  have h2 : q % b.W < b.W := Nat.mod_lt _ (by omega)
  obtain ⟨e1, e2⟩ := mirP_at hb p
  obtain ⟨e3, e4⟩ := mirP_at hb q
  unfold dist
  rw [e1, e2, e3, e4]
  omega
theorem mir_in {b : Bo} (hb : b.OK) {s : Si} (hs : s.OK b) (p : Nat) : inB b (mirS b s) (mirP b p) = inB b s p := by
  have hW := hb.W
  have h1 : p % b.W < b.W := Nat.mod_lt _ (by omega)
  obtain ⟨e1, e2⟩ := mirP_at hb p
  have := hs.col
  unfold inB mirS
  rw [e1, e2, Bool.eq_iff_iff]
  simp only [Bool.and_eq_true, decide_eq_true_eq]
  omega
theorem plain_mem {b : Bo} {i row : Nat} : kept (b.seen.getD (rowQ b i row).boat []) (rowQ b i row).without (b.seen.getD (rowQ b i row).boat []).length = seenOf b i := kept_nought _
theorem mir_tr {b : Bo} (hb : b.OK) {n : Nat} (hn : n < b.seen.length) (row : Nat) (c : Nat → Nat) : TrQ b (rowQ b n row) c ↔ TrQ (mirB b n) (rowQ (mirB b n) 1 row) fun m => mirP b (c m) := by
  have hsi := fun s hs => hb.si (seenOf_mem hn) (s := s) hs
  constructor
  · intro h
    refine ⟨fun m h1 h2 => ⟨mirP_lt hb (h.ok m h1 h2).lt, ?_, fun s hs e => ?_⟩, fun m h1 h2 => ?_⟩
    · show row ≤ mirP b (c m) / b.W
      rw [(mirP_at hb _).1]; exact (h.ok m h1 h2).row
    · rw [plain_mem] at hs
      obtain ⟨t, ht, rfl⟩ := List.mem_map.1 hs
      refine (mir_in hb (hsi t ht) _).trans ((h.ok m h1 h2).saw t ?_ e)
      rw [plain_mem]; exact ht
    · show dist b (mirP b (c m)) (mirP b (c (m + 1))) ≤ _
      rw [mirP_dist hb]; exact h.near m h1 h2
  · intro h
    refine ⟨fun m h1 h2 => ⟨?_, ?_, fun s hs e => ?_⟩, fun m h1 h2 => ?_⟩
    · have := mirP_lt hb (h.ok m h1 h2).lt
      rwa [mirP_mirP hb] at this
    · have : row ≤ mirP b (c m) / b.W := (h.ok m h1 h2).row
      rwa [(mirP_at hb _).1] at this
    · rw [plain_mem] at hs
      rw [← mir_in hb (hsi s hs)]
      refine (h.ok m h1 h2).saw (mirS b s) ?_ e
      rw [plain_mem]
      exact List.mem_map.2 ⟨s, hs, rfl⟩
    · have : dist b (mirP b (c m)) (mirP b (c (m + 1))) ≤ _ := h.near m h1 h2
      rwa [mirP_dist hb] at this

/-! ### Minutes turned round -/
def revW (n w : Nat) : Nat := maskOf (fun i => w.testBit (n - 1 - i)) n
theorem revW_bit (n w i : Nat) : (revW n w).testBit i = (decide (i < n) && w.testBit (n - 1 - i)) := maskOf_bit _ _ _
theorem revW_lt (n w : Nat) : revW n w < 2 ^ n := maskOf_lt _ _
theorem revW_size : ∀ n ≤ 5, ∀ w < 2 ^ n, size (revW n w) = size w := by decide +kernel
theorem revW_zero (n : Nat) : revW n 0 = 0 := by
  apply Nat.eq_of_testBit_eq
  intro i
  rw [revW_bit]; simp
theorem rev_at (b : Bo) (l : List Si) {i : Nat} (h : i < l.length) : (l.reverse.map (revS b))[i]? = (l[l.length - 1 - i]?).map (revS b) := by
  rw [List.getElem?_map, List.getElem?_reverse h]
abbrev boQ (i w row sp : Nat) : Qu := ⟨i, w, row, sp⟩
theorem rev_tr1 {b : Bo} (hb : b.OK) {n : Nat} {w row sp : Nat} {c : Nat → Nat} (h : TrQ b (boQ n w row sp) c) : TrQ (revB b n) (boQ 0 (revW (seenOf b n).length w) row sp) fun m => c (b.L - m) := by
  have hL := hb.L
  refine ⟨fun m h1 h2 => ⟨(h.ok (b.L - m) (Nat.zero_le _) (by omega)).lt, (h.ok (b.L - m) (Nat.zero_le _) (by omega)).row, fun s hs e => ?_⟩, fun m h1 h2 => ?_⟩
  · have h2 : m ≤ b.L := h2
    obtain ⟨i, hi, hw, hg⟩ := kept_mem.1 hs
    have hg' : ((seenOf b n).reverse.map (revS b))[i]? = some s := hg
    have hi' : i < ((seenOf b n).reverse.map (revS b)).length := hi
    rw [List.length_map, List.length_reverse] at hi'
    rw [rev_at b _ hi'] at hg'
    obtain ⟨t, ht, rfl⟩ := Option.map_eq_some_iff.1 hg'
    have hw' : (revW (seenOf b n).length w).testBit i = false := hw
    rw [revW_bit, decide_eq_true hi', Bool.true_and] at hw'
    refine (h.ok (b.L - m) (Nat.zero_le _) (by omega)).saw t (kept_mem.2 ⟨_, ?_, hw', ht⟩) ?_
    · show _ < (seenOf b n).length; omega
    · have e' : b.last - t.minute = m := e
      omega
  · have h2 : m < b.L := h2
    show dist b (c (b.L - m)) (c (b.L - (m + 1))) ≤ _
    rw [dist_comm]
    have := h.near (b.L - (m + 1)) (Nat.zero_le _) (by omega)
    rwa [show b.L - (m + 1) + 1 = b.L - m by omega] at this
theorem rev_tr2 {b : Bo} (hb : b.OK) {n : Nat} {w row sp : Nat} {c : Nat → Nat} (h : TrQ (revB b n) (boQ 0 (revW (seenOf b n).length w) row sp) c) : TrQ b (boQ n w row sp) fun m => c (b.L - m) := by
  have hL := hb.L
  refine ⟨fun m h1 h2 => ⟨(h.ok (b.L - m) (Nat.zero_le _) (show b.L - m ≤ b.L by omega)).lt, (h.ok (b.L - m) (Nat.zero_le _) (show b.L - m ≤ b.L by omega)).row, fun s hs e => ?_⟩, fun m h1 h2 => ?_⟩
  · obtain ⟨i, hi, hw, hg⟩ := kept_mem.1 hs
    have hi : i < (seenOf b n).length := hi
    have hg : (seenOf b n)[i]? = some s := hg
    refine (h.ok (b.L - m) (Nat.zero_le _) (show b.L - m ≤ b.L by omega)).saw (revS b s) (kept_mem.2 ⟨(seenOf b n).length - 1 - i, ?_, ?_, ?_⟩) ?_
    · show _ < ((seenOf b n).reverse.map (revS b)).length
      rw [List.length_map, List.length_reverse]; omega
    · show (revW (seenOf b n).length w).testBit _ = false
      rw [revW_bit, decide_eq_true (by omega), Bool.true_and, show (seenOf b n).length - 1 - ((seenOf b n).length - 1 - i) = i by omega]; exact hw
    · show ((seenOf b n).reverse.map (revS b))[(seenOf b n).length - 1 - i]? = _
      rw [rev_at b _ (by omega), show (seenOf b n).length - 1 - ((seenOf b n).length - 1 - i) = i by omega, hg]; rfl
    · show b.last - s.minute = _
      omega
  · show dist b (c (b.L - m)) (c (b.L - (m + 1))) ≤ _
    rw [dist_comm]
    have := h.near (b.L - (m + 1)) (Nat.zero_le _) (show b.L - (m + 1) < b.L by omega)
    rwa [show b.L - (m + 1) + 1 = b.L - m by omega] at this
theorem rev_can {b : Bo} (hb : b.OK) {n : Nat} (hn : n < b.seen.length) (w row sp : Nat) : canQ b (boQ n w row sp) = canQ (revB b n) (boQ 0 (revW (seenOf b n).length w) row sp) := by
  rw [Bool.eq_iff_iff, canQ_iff hb, canQ_iff (revB_OK hb hn)]
  exact ⟨fun ⟨c, h⟩ => ⟨_, rev_tr1 hb h⟩, fun ⟨c, h⟩ => ⟨_, rev_tr2 hb h⟩⟩
theorem rev_canM {b : Bo} (hb : b.OK) {n m : Nat} (hn : n < b.seen.length) (hm : m ≤ b.L) : canM b n m = canM (revB b n) 0 (b.L - m) := by
  apply Nat.eq_of_testBit_eq
  intro p
  rw [Bool.eq_iff_iff, canM_bit hb hm, canM_bit (revB_OK hb hn) (show b.L - m ≤ b.L by omega)]
  have e : ∀ c, TrQ (revB b n) (rowQ (revB b n) 0 0) c ↔ TrQ (revB b n) (boQ 0 (revW (seenOf b n).length 0) 0 b.speed.toNat) c := fun c => by rw [revW_zero]; exact Iff.rfl
  constructor
  · rintro ⟨c, h, rfl⟩
    exact ⟨_, (e _).2 (rev_tr1 hb h), by show c (b.L - (b.L - m)) = c m; rw [show b.L - (b.L - m) = m by omega]⟩
  · rintro ⟨c, h, rfl⟩
    exact ⟨_, rev_tr2 hb ((e _).1 h), rfl⟩
theorem rev_row {b : Bo} (hb : b.OK) {n : Nat} (hn : n < b.seen.length) (row : Nat) : canQ b (rowQ b n row) = canQ (revB b n) (rowQ (revB b n) 0 row) := by
  have := rev_can hb hn 0 row b.speed.toNat
  rw [revW_zero] at this
  exact this
theorem rev_speed {b : Bo} (hb : b.OK) {n : Nat} (hn : n < b.seen.length) : speedR b n = speedR (revB b n) 0 := by
  have : ∀ k, canQ b (speedQ n k) = canQ (revB b n) (speedQ 0 k) := fun k => by
    have := rev_can hb hn 0 0 k
    rw [revW_zero] at this
    exact this
  unfold speedR
  congr 1
  funext k
  exact this k
/-- How near it came, where both the rows it can stay in, and those it comes to, are the same. -/
theorem nearS_eq {b x : Bo} (hb : b.OK) (hx : x.OK) {i j : Nat} (hW : x.W = b.W) (hD : x.D = b.D) (hc : ∀ row, canQ b (rowQ b i row) = canQ x (rowQ x j row)) (h1 : ∀ m ≤ b.L, ∀ p, (canM b i m).testBit p = true → ∃ m' ≤ x.L, ∃ q, (canM x j m').testBit q = true ∧ q / b.W = p / b.W) (h2 : ∀ m ≤ x.L, ∀ p, (canM x j m).testBit p = true → ∃ m' ≤ b.L, ∃ q, (canM b i m').testBit q = true ∧ q / b.W = p / b.W) (hT : isT b i = true) : nearS b i = nearS x j := by
  have hT' : isT x j = true := (hc 0).symm.trans hT
  have e1 : nearHi b i = nearHi x j := by
    unfold nearHi
    rw [hD]
    congr 1
    congr 1
    funext k
    rw [hc]
  have e2 : loR b (nearAll b i) = loR x (nearAll x j) := by
    obtain ⟨⟨m, hm, p, hp, e⟩, h3⟩ := near_lo hb hT
    obtain ⟨⟨m', hm', q, hq, e'⟩, h4⟩ := near_lo hx hT'
    obtain ⟨m1, hm1, p1, hp1, e1⟩ := h1 m hm p hp
    obtain ⟨m2, hm2, p2, hp2, e2⟩ := h2 m' hm' q hq
    have := h3 m2 hm2 p2 hp2
    have := h4 m1 hm1 p1 hp1
    rw [hW] at *
    omega
  unfold nearS
  rw [e1, e2]
theorem rev_near {b : Bo} (hb : b.OK) {n : Nat} (hn : n < b.seen.length) (hT : isT b n = true) : nearS b n = nearS (revB b n) 0 := by
  refine nearS_eq hb (revB_OK hb hn) rfl rfl (rev_row hb hn) (fun m hm p hp => ⟨b.L - m, show b.L - m ≤ b.L by omega, p, by rw [← rev_canM hb hn hm]; exact hp, rfl⟩) (fun m hm p hp => ?_) hT
  have hm : m ≤ b.L := hm
  refine ⟨b.L - m, by omega, p, ?_, rfl⟩
  rw [rev_canM hb hn (by omega), show b.L - (b.L - m) = m by omega]
  exact hp
theorem mir_row {b : Bo} (hb : b.OK) {n : Nat} (hn : n < b.seen.length) (row : Nat) : canQ b (rowQ b n row) = canQ (mirB b n) (rowQ (mirB b n) 1 row) := by
  rw [Bool.eq_iff_iff, canQ_iff hb, canQ_iff (mirB_OK hb hn)]
  constructor
  · rintro ⟨c, h⟩; exact ⟨_, (mir_tr hb hn row c).1 h⟩
  · rintro ⟨c, h⟩
    refine ⟨fun m => mirP b (c m), (mir_tr hb hn row _).2 ?_⟩
    have e : (fun m => mirP b (mirP b (c m))) = c := funext fun m => mirP_mirP hb _
    simp only [e]
    exact h
theorem mir_bit {b : Bo} (hb : b.OK) {n m : Nat} (hn : n < b.seen.length) (hm : m ≤ b.L) (p : Nat) : (canM b n m).testBit p = (canM (mirB b n) 1 m).testBit (mirP b p) := by
  rw [Bool.eq_iff_iff, canM_bit hb hm, canM_bit (mirB_OK hb hn) hm]
  constructor
  · rintro ⟨c, h, rfl⟩; exact ⟨_, (mir_tr hb hn 0 c).1 h, rfl⟩
  · rintro ⟨c, h, e⟩
    refine ⟨fun m => mirP b (c m), (mir_tr hb hn 0 _).2 ?_, ?_⟩
    · have e : (fun m => mirP b (mirP b (c m))) = c := funext fun m => mirP_mirP hb _
      simp only [e]
      exact h
    · show mirP b (c m) = p
      rw [e, mirP_mirP hb]
theorem mir_near {b : Bo} (hb : b.OK) {n : Nat} (hn : n < b.seen.length) (hT : isT b n = true) : nearS b n = nearS (mirB b n) 1 := by
  refine nearS_eq hb (mirB_OK hb hn) rfl rfl (mir_row hb hn) (fun m hm p hp => ⟨m, hm, mirP b p, by rw [← mir_bit hb hn hm]; exact hp, (mirP_at hb p).1⟩) (fun m hm p hp => ⟨m, hm, mirP b p, ?_, (mirP_at hb p).1⟩) hT
  rw [mir_bit hb hn hm, mirP_mirP hb]; exact hp
theorem only_canM {b : Bo} (hb : b.OK) {n m : Nat} (hn : n < b.seen.length) (hm : m ≤ b.L) : canM b n m = canM (onlyB b n) 0 m ∧ isT b n = isT (onlyB b n) 0 := by
  have h : ∀ c, TrQ b (rowQ b n 0) c ↔ TrQ (onlyB b n) (rowQ (onlyB b n) 0 0) c := fun c => by
    constructor
    · intro h
      exact ⟨fun m h1 h2 => ⟨(h.ok m h1 h2).lt, (h.ok m h1 h2).row, fun s hs => (h.ok m h1 h2).saw s hs⟩, h.near⟩
    · intro h
      exact ⟨fun m h1 h2 => ⟨(h.ok m h1 h2).lt, (h.ok m h1 h2).row, fun s hs => (h.ok m h1 h2).saw s hs⟩, h.near⟩
  constructor
  · apply Nat.eq_of_testBit_eq
    intro p
    rw [Bool.eq_iff_iff, canM_bit hb hm, canM_bit (onlyB_OK hb hn) hm]
    simp only [h]
  · rw [Bool.eq_iff_iff]
    show canQ b (rowQ b n 0) = true ↔ canQ (onlyB b n) (rowQ (onlyB b n) 0 0) = true
    rw [canQ_iff hb, canQ_iff (onlyB_OK hb hn)]
    simp only [h]
theorem rev_wrong {b : Bo} (hb : b.OK) {n : Nat} (hn : n < b.seen.length) : size (wrongR b n) = size (wrongR (revB b n) 0) ∧ (wrongR b n = 0 ↔ wrongR (revB b n) 0 = 0) := by
  have hO := revB_OK hb hn
  have h5 := hb.lens _ (seenOf_mem hn)
  have hlen : (seenOf (revB b n) 0).length = (seenOf b n).length := by
    show ((seenOf b n).reverse.map (revS b)).length = _
    rw [List.length_map, List.length_reverse]
  have hc := fun w => rev_can hb hn w 0 b.speed.toNat
  obtain ⟨h1, h2, h3⟩ := wrong_spec hb hn
  obtain ⟨g1, g2, g3⟩ := wrong_spec hO (i := 0) (by show 0 < 1; decide)
  rw [hlen] at g1 g3
  have hrr : ∀ w < 2 ^ (seenOf b n).length, revW (seenOf b n).length (revW (seenOf b n).length w) = w := fun w hw => by
    apply Nat.eq_of_testBit_eq
    intro i
    rw [revW_bit]
    by_cases hi : i < (seenOf b n).length
    · rw [decide_eq_true hi, Bool.true_and, revW_bit, decide_eq_true (by omega), Bool.true_and, show (seenOf b n).length - 1 - ((seenOf b n).length - 1 - i) = i by omega]
    · rw [decide_eq_false hi, Bool.false_and, Nat.testBit_lt_two_pow (Nat.lt_of_lt_of_le hw (Nat.pow_le_pow_right (by decide) (by omega)))]
  have a1 := g3 _ (revW_lt (seenOf b n).length (wrongR b n)) (by
    have := hc (wrongR b n)
    rw [show canQ b (boQ n (wrongR b n) 0 b.speed.toNat) = true from h2] at this
    exact this.symm)
  have a2 := h3 _ (revW_lt (seenOf b n).length (wrongR (revB b n) 0)) (by
    have := hc (revW (seenOf b n).length (wrongR (revB b n) 0))
    rw [hrr _ g1] at this
    exact this.trans g2)
  rw [revW_size _ h5 _ h1] at a1
  rw [revW_size _ h5 _ g1] at a2
  refine ⟨by omega, ?_⟩
  have z1 := wrong_zero hb hn
  have z2 := wrong_zero hO (i := 0) (by show 0 < 1; decide)
  have z3 := hc 0
  rw [revW_zero] at z3
  rw [← decide_eq_true_iff (p := wrongR b n = 0), ← decide_eq_true_iff (p := wrongR (revB b n) 0 = 0), z1, z2]
  rw [show canQ b (outQ b n 0) = canQ (revB b n) (outQ (revB b n) 0 0) from z3]
end Go.Proofs.YtafcdpmcmmfbhaaDoor
