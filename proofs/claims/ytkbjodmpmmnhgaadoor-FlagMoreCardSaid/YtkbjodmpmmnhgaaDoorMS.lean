/- Proved here: laws that the statements need (FlX5). No conditions but those that each law states. -/
import Derived.Test.YtkbjodmpmmnhgaaDoorMN

set_option linter.unusedSimpArgs false
set_option linter.unusedVariables false

/- FlagMore: what is told of less truths. -/
namespace Go.Proofs.YtkbjodmpmmnhgaaDoor
open Go Go.Ab

/-- A flag of which more is known. -/
structure Narrow (f z : Fl) : Prop where
  ok : z.OK
  q : z.quiet = f.quiet
  n : z.hs.length = f.hs.length
  t : (truths z).Sublist (truths f)
theorem Narrow.upAt {f z : Fl} (h : Narrow f z) : upAt z = upAt f := by
  funext ks i
  simp only [YtkbjodmpmmnhgaaDoor.upAt, ups, h.q]
theorem Narrow.noT {f z : Fl} (h : Narrow f z) (hz : noT z = false) : noT f = false := by
  have := noT_ne hz
  cases hf : YtkbjodmpmmnhgaaDoor.noT f with
  | false => rfl
  | true =>
    have h2 := h.t
    rw [noT_nil hf] at h2
    exact absurd (List.sublist_nil.1 h2) this
theorem Narrow.sure {f z : Fl} (h : Narrow f z) {i : Nat} (hs : sure f i = true) : sure z i = true := by
  rw [sure_all] at hs ⊢
  intro ks hks
  rw [h.upAt]
  exact hs ks (h.t.subset hks)
theorem Narrow.perh {f z : Fl} (h : Narrow f z) {i : Nat} (hs : perh z i = true) : perh f i = true := by
  rw [perh_any] at hs ⊢
  obtain ⟨ks, hks, hu⟩ := hs
  rw [h.upAt] at hu
  exact ⟨ks, h.t.subset hks, hu⟩
theorem ndiff_zero {a b : Nat} (h : ∀ i, a.testBit i = true → b.testBit i = true) : ndiff a b = 0 := by
  apply Nat.eq_of_testBit_eq
  intro i
  rw [ndiff_bit, Nat.zero_testBit]
  cases ha : a.testBit i
  · rfl
  · rw [h i ha]; rfl
theorem Narrow.maskS {f z : Fl} (h : Narrow f z) : ndiff (maskOf (YtkbjodmpmmnhgaaDoor.sure f) f.hs.length) (maskOf (YtkbjodmpmmnhgaaDoor.sure z) z.hs.length) = 0 := ndiff_zero fun i hi => by
  rw [maskOf_bit, Bool.and_eq_true] at hi ⊢
  rw [h.n]
  exact ⟨hi.1, h.sure hi.2⟩
theorem Narrow.maskP {f z : Fl} (h : Narrow f z) : ndiff (maskOf (YtkbjodmpmmnhgaaDoor.perh z) z.hs.length) (maskOf (YtkbjodmpmmnhgaaDoor.perh f) f.hs.length) = 0 := ndiff_zero fun i hi => by
  rw [maskOf_bit, Bool.and_eq_true] at hi ⊢
  rw [h.n] at hi
  exact ⟨hi.1, h.perh hi.2⟩
theorem Narrow.hull {f z : Fl} (h : Narrow f z) {a b : Int} {s t : Int × Int} (hs : hullU f a b = some s) (ht : hullU z a b = some t) : s.1 ≤ t.1 ∧ t.2 ≤ s.2 := by
  unfold hullU at hs ht
  obtain ⟨_, _, h3⟩ := hullO_spec hs
  obtain ⟨h4, h5, _⟩ := hullO_spec ht
  have e : ∀ ks, upN z a b ks = upN f a b ks := fun ks => by simp only [upN, ups, h.q]
  obtain ⟨k1, m1, e1⟩ := List.mem_map.1 h4
  obtain ⟨k2, m2, e2⟩ := List.mem_map.1 h5
  rw [← e1, ← e2, e, e]
  exact ⟨(h3 _ (List.mem_map_of_mem (h.t.subset m1))).1, (h3 _ (List.mem_map_of_mem (h.t.subset m2))).2⟩
theorem hullU_some {f : Fl} (hT : noT f = false) (a b : Int) : ∃ s, hullU f a b = some s := by
  cases hs : hullU f a b with
  | some s => exact ⟨s, rfl⟩
  | none =>
    unfold hullU at hs
    rw [hullO_none] at hs
    exact absurd (List.map_eq_nil_iff.1 hs) (noT_ne hT)
theorem hullU_no {f : Fl} (hT : noT f = true) (a b : Int) : hullU f a b = none := by
  unfold hullU
  rw [noT_nil hT]
  rfl
theorem Narrow.under {f z : Fl} (hf : f.OK) (h : Narrow f z) (hz : YtkbjodmpmmnhgaaDoor.noT z = false) {a b : Nat} (hab : a < b) (hb : b ≤ f.hs.length) :
    ∃ u v : Int, specUnder f a b = (u, 0) ∧ specUnder z a b = (v, 0) ∧ ((u != 1) && (v != u)) = false := by
  obtain ⟨u, e1, hu, hu2, hu0⟩ := under_spec hf (h.noT hz) hab hb
  obtain ⟨v, e2, hv, hv2, hv0⟩ := under_spec h.ok hz hab (by rw [h.n]; exact hb)
  refine ⟨u, v, e1, e2, ?_⟩
  have eU : UpIn z a b = UpIn f a b := by funext ks; unfold UpIn; rw [h.upAt]
  rw [eU] at hv2 hv0
  rcases hu with rfl | rfl | rfl
  · have : v = 2 := hv2.2 fun ks hks => hu2.1 rfl ks (h.t.subset hks)
    subst this; rfl
  · rfl
  · have : v = 0 := hv0.2 fun ks hks => hu0.1 rfl ks (h.t.subset hks)
    subst this; rfl

/-- With something more that was seen. -/
theorem narrow_seen {f : Fl} (x : Sn) (hz : (withS f (f.ss ++ [x])).OK) : Narrow f (withS f (f.ss ++ [x])) := by
  refine ⟨hz, rfl, rfl, ?_⟩
  rw [truths_withS]
  have : (rows f).filter (right f (f.ss ++ [x])) = (truths f).filter (right f [x]) := by
    unfold truths
    rw [List.filter_filter]
    refine List.filter_congr fun ks _ => ?_
    simp only [right, List.all_append]
    rw [Bool.and_comm]
  rw [this]
  exact List.filter_sublist

/-- With an hour that is known better. -/
def withH (f : Fl) (i : Nat) (h : Hr) : Fl := { f with hs := f.hs.set i h }
structure Better (h h' : Hr) : Prop where
  lo : h.lo ≤ h'.lo
  hi : h'.hi ≤ h.hi
  is : h'.lo ≤ h'.hi
  t0 : h'.th ≠ 0 → h.th ≠ 0
  t2 : h'.th ≠ 2 → h.th ≠ 2
theorem kindsN_better {f : Fl} {h h' : Hr} (hb : Better h h') (hl : h.lo ≤ h.hi) {k : Nat} (hk : k < 3) (hc : (kindsN f h').testBit k = true) : (kindsN f h).testBit k = true := by
  have b1 := hb.lo
  have b2 := hb.hi
  have b3 := hb.is
  rw [kindsN_bit f _ hb.is k hk] at hc
  rw [kindsN_bit f _ hl k hk]
  obtain ⟨i, hi, c | c⟩ := hc
  · exact ⟨0, by omega, .inl ⟨hb.t0 c.1, c.2⟩⟩
  · refine ⟨(h'.lo - h.lo).toNat + i, by omega, .inr ⟨hb.t2 c.1, ?_⟩⟩
    rw [show h.lo + (((h'.lo - h.lo).toNat + i : Nat) : Int) = h'.lo + (i : Nat) by omega]
    exact c.2
theorem kAcc_withH (f : Fl) (i : Nat) (h : Hr) (lo : Int) : ∀ j, kAcc (withH f i h) lo j = kAcc f lo j
  | 0 => rfl
  | j + 1 => by simp only [kAcc, kAcc_withH f i h lo j]; rfl
theorem kindsN_withH (f : Fl) (i : Nat) (h x : Hr) : kindsN (withH f i h) x = kindsN f x := by unfold kindsN; simp only [kAcc_withH]
theorem Kf_withH {f : Fl} (hf : f.OK) {i : Nat} {h h' : Hr} (hg : f.hs[i]? = some h) (hb : Better h h') (j : Nat) {k : Nat} (hk : k < 3) (hc : (Kf (withH f i h') j).testBit k = true) : (Kf f j).testBit k = true := by
  unfold Kf at hc ⊢
  simp only [kindsN_withH] at hc
  by_cases e : j = i
  · subst e
    obtain ⟨hlt, he⟩ := List.getElem?_eq_some_iff.1 hg
    simp only [withH, List.getElem?_set_self hlt] at hc
    rw [hg]
    have := hf.hs h (he ▸ List.getElem_mem hlt)
    exact kindsN_better hb this.2.1 hk hc
  · simp only [withH, List.getElem?_set_ne (Ne.symm e)] at hc
    exact hc
theorem kset_three (m : Nat) : kset m = (if m.testBit 0 then [0] else []) ++ ((if m.testBit 1 then [1] else []) ++ (if m.testBit 2 then [2] else [])) := by
  show [0, 1, 2].filter m.testBit = _
  simp only [List.filter]
  cases m.testBit 0 <;> cases m.testBit 1 <;> cases m.testBit 2 <;> rfl
theorem kls_sub {f z : Fl} (hK : ∀ j k, k < 3 → (Kf z j).testBit k = true → (Kf f j).testBit k = true) : ∀ l h, (kls z l h).Sublist (kls f l h)
  | 0, _ => List.Sublist.refl _
  | l + 1, h => by
    have ih := kls_sub hK l (h + 1)
    have key : ∀ k, k < 3 → ((if (Kf z h).testBit k then [k] else []).flatMap fun x => (kls z l (h + 1)).map (x :: ·)).Sublist ((if (Kf f h).testBit k then [k] else []).flatMap fun x => (kls f l (h + 1)).map (x :: ·)) := by
      intro k hk
      cases hz : (Kf z h).testBit k
      · simp
      · rw [hK h k hk hz]
        simpa using ih.map (k :: ·)
    simp only [kls, kset_three, List.flatMap_append]
    exact (key 0 (by decide)).append ((key 1 (by decide)).append (key 2 (by decide)))
theorem narrow_hour {f : Fl} (hf : f.OK) {i : Nat} {h h' : Hr} (hg : f.hs[i]? = some h) (hb : Better h h') (hz : (withH f i h').OK) : Narrow f (withH f i h') := by
  refine ⟨hz, rfl, by simp [withH], ?_⟩
  have hr : (rows (withH f i h')).Sublist (rows f) := by
    unfold rows
    rw [show (withH f i h').hs.length = f.hs.length by simp [withH]]
    exact kls_sub (fun j k hk hc => Kf_withH hf hg hb j hk hc) _ _
  exact hr.filter _
end Go.Proofs.YtkbjodmpmmnhgaaDoor
