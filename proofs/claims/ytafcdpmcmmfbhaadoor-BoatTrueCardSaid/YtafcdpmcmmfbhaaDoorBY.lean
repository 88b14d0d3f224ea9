/- Proved here: laws that the statements need (BoXJ). No conditions but those that each law states. -/
import Derived.Test.YtafcdpmcmmfbhaaDoorBX

set_option linter.unusedSimpArgs false
set_option linter.unusedVariables false

/- BoatTrue. -/
namespace Go.Proofs.YtafcdpmcmmfbhaaDoor
open Go Go.Ab

def trueB (b : Bo) (n : Nat) (c : Nat → Nat) : Bo := withS b [(seenOf b n).map (rightS b c)]
structure TruOK (b x : Bo) (c : Nat → Nat) : Prop where
  ok : x.OK
  tr : TrQ x (rowQ x 0 0) c
  W : x.W = b.W
  D : x.D = b.D
  L : x.L = b.L
  N : x.N = b.N
  sp : x.speed = b.speed
  len : x.seen.length = 1
theorem true_spec {b : Bo} (hb : b.OK) {n : Nat} (hn : n < b.seen.length) {c : Nat → Nat} (hc : ∀ m, c m < b.N) (hnear : ∀ m, dist b (c m) (c (m + 1)) ≤ b.speed.toNat) : TruOK b (trueB b n c) c := by
  have hsi := fun s hs => hb.si (seenOf_mem hn) (s := s) hs
  refine ⟨withS_OK hb (show 1 ≤ 4 by decide) fun x hx => ?_, ⟨fun m h1 h2 => ⟨hc m, Nat.zero_le _, fun s hs e => ?_⟩, fun m h1 h2 => hnear m⟩, rfl, rfl, rfl, rfl, rfl, rfl⟩
  · rw [List.mem_singleton] at hx
    subst hx
    obtain ⟨h1, h2⟩ := (saw_iff (Int.le_refl 0)).1 (hb.saw _ (seenOf_mem hn))
    refine ⟨by rw [List.length_map]; exact hb.lens _ (seenOf_mem hn), (saw_iff (Int.le_refl 0)).2 ⟨fun s hs => ?_, ?_⟩⟩
    · obtain ⟨t, ht, rfl⟩ := List.mem_map.1 hs
      exact ⟨(rightS_spec hb hc (h1 t ht).1).1, (h1 t ht).2⟩
    · rw [List.pairwise_map]; exact h2
  · have hs' : s ∈ (seenOf b n).map (rightS b c) := by
      rw [show (rowQ (trueB b n c) 0 0).without = 0 from rfl, kept_nought] at hs
      exact hs
    obtain ⟨t, ht, rfl⟩ := List.mem_map.1 hs'
    have e' : t.minute = m := e
    have := (rightS_spec hb hc (hsi t ht)).2
    rw [e', Int.toNat_natCast] at this
    exact this
def nearK (b : Bo) (c : Nat → Nat) (j : Nat) : Nat := (List.range j).foldl (fun a k => min a (c k / b.W)) b.D
theorem nearK_succ (b : Bo) (c : Nat → Nat) (j : Nat) : nearK b c (j + 1) = min (nearK b c j) (c j / b.W) := by
  unfold nearK; rw [List.range_succ, List.foldl_append]; rfl
theorem nearK_spec (b : Bo) (c : Nat → Nat) : ∀ j, (∀ k < j, nearK b c j ≤ c k / b.W) ∧ nearK b c j ≤ b.D ∧ (nearK b c j = b.D ∨ ∃ k < j, nearK b c j = c k / b.W)
  | 0 => ⟨fun k hk => by omega, Nat.le_refl _, .inl rfl⟩
  | j + 1 => by
    obtain ⟨h1, h2, h3⟩ := nearK_spec b c j
    rw [nearK_succ]
    refine ⟨fun k hk => ?_, by omega, ?_⟩
    · by_cases e : k = j
      · subst e; omega
      · have := h1 k (by omega); omega
    · by_cases e : nearK b c j ≤ c j / b.W
      · rw [Nat.min_eq_left e]
        rcases h3 with h | ⟨k, hk, h⟩
        · exact .inl h
        · exact .inr ⟨k, by omega, h⟩
      · rw [Nat.min_eq_right (by omega)]
        exact .inr ⟨j, by omega, rfl⟩
theorem TruOK.told {b x : Bo} {c : Nat → Nat} (h : TruOK b x c) : isT x 0 = true := (canQ_iff h.ok _).2 ⟨c, h.tr⟩
theorem TruOK.at' {b x : Bo} {c : Nat → Nat} (h : TruOK b x c) {m : Nat} (hm : m ≤ b.L) : (canM x 0 m).testBit (c m) = true ∧ canM x 0 m < 2 ^ b.N ∧ loR x (canM x 0 m) ≤ c m / b.W ∧ c m / b.W ≤ hiR x (canM x 0 m) := by
  have hm' : m ≤ x.L := by rw [h.L]; exact hm
  have hb := (canM_bit h.ok hm' (c m)).2 ⟨c, h.tr, rfl⟩
  refine ⟨hb, by rw [← h.N]; exact canM_N h.ok 0 hm', ?_, ?_⟩
  · rw [← h.W]; exact (lo_spec h.ok hm' h.told).2 _ hb
  · rw [← h.W]; exact (hi_spec h.ok hm' h.told).2 _ hb
theorem TruOK.near {b x : Bo} {c : Nat → Nat} (h : TruOK b x c) (hlt : c 0 / b.W < b.D) : loR x (nearAll x 0) ≤ nearK b c (b.L + 1) ∧ nearK b c (b.L + 1) ≤ nearHi x 0 := by
  obtain ⟨h1, h2, h3⟩ := nearK_spec b c (b.L + 1)
  have h4 := h1 0 (by omega)
  constructor
  · rcases h3 with h3 | ⟨k, hk, h3⟩
    · omega
    · rw [h3, ← h.W]
      have hk' : k ≤ x.L := by rw [h.L]; omega
      exact (near_lo h.ok h.told).2 k hk' _ ((canM_bit h.ok hk' _).2 ⟨c, h.tr, rfl⟩)
  · apply Classical.byContradiction
    intro hn
    have h5 : canQ x (rowQ x 0 (nearHi x 0 + 1)) = true := (canQ_iff h.ok _).2 ⟨c, tr_rows (fun m hm => by
      have := h1 m (by rw [h.L] at hm; omega)
      rw [h.W]; omega) h.tr⟩
    rw [(nearHi_spec h.ok 0).1.2] at h5
    cases h5
theorem TruOK.speed {b x : Bo} {c : Nat → Nat} (h : TruOK b x c) : ∃ k : Nat, specSpeed x (0 : Nat) = ((k : Int), 0) ∧ (k : Int) ≤ b.speed := by
  rw [specSpeed_ok h.ok (by rw [h.len]; decide)]
  have hs := speedR_spec h.ok 0
  have hsp := h.ok.speed
  have hq : canQ x (speedQ 0 x.speed.toNat) = true := h.told
  cases hr : speedR x 0 with
  | none =>
    rw [hr] at hs
    rw [hs _ (by omega)] at hq
    cases hq
  | some k =>
    rw [hr] at hs
    rw [hs.2 _ (by omega)] at hq
    have := of_decide_eq_true hq
    have := h.sp
    exact ⟨k, rfl, by omega⟩
theorem TruOK.wrong {b x : Bo} {c : Nat → Nat} (h : TruOK b x c) : specWrong x (0 : Nat) = (0, 4) := by
  have h1 : 0 < x.seen.length := by rw [h.len]; decide
  rw [specWrong_ok h.ok h1]
  unfold wrongV
  rw [if_pos (of_decide_eq_true ((wrong_zero h.ok h1).trans h.told))]
theorem TruOK.who {b x : Bo} {c : Nat → Nat} (h : TruOK b x c) {m : Nat} (hm : m ≤ b.L) (hc : c m < b.N) : ∃ s : Nat, s < 2 ∧ specWho x m (c m : Nat) = ((s : Int), 1, 0) := by
  have hm' : m ≤ x.L := by rw [h.L]; exact hm
  rw [specWho_ok h.ok hm' (by rw [h.N]; exact hc)]
  have hA : allCan x = true := by
    unfold allCan
    rw [h.len]
    simp only [List.range_one, List.all_cons, List.all_nil, Bool.and_true]
    exact h.told
  rw [hA, if_pos rfl, h.len]
  have e1 : canW x m (c m) 1 = 1 := by
    show (if hasB x m (c m) 0 then (0 : Nat) ||| 2 ^ 0 else 0) = 1
    rw [show hasB x m (c m) 0 = true from (h.at' hm).1]; rfl
  rw [e1]
  exact ⟨_, maskOf_lt _ 1, rfl⟩
end Go.Proofs.YtafcdpmcmmfbhaaDoor
