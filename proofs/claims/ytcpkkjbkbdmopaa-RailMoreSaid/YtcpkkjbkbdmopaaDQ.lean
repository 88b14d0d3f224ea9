/- Proved here: laws that the statements need (RaS8). No conditions but those that each law states. -/
import Derived.Test.YtcpkkjbkbdmopaaDN

set_option linter.unusedSimpArgs false
set_option linter.unusedVariables false

/- What is better for a rail, and that nothing is worse then: plain laws for RailMore. -/
namespace Go.Proofs.Ytcpkkjbkbdmopaa
open Go Go.Ab

structure Better (r x : Ra) : Prop where
  tw : x.tw = r.tw
  hours : x.hours = r.hours
  stock : r.stock ≤ x.stock
  f : ∀ b h, r.f b h ≤ x.f b h
  len : x.lines.length = r.lines.length
  ln : ∀ (j : Nat) l l', r.lines[j]? = some l → x.lines[j]? = some l' → l'.many = l.many ∧ 0 ≤ l'.from_ ∧ l'.from_ ≤ l.from_ ∧ 1 ≤ l'.lo ∧ l'.lo ≤ l.lo ∧ 1 ≤ l'.hi ∧ l'.hi ≤ l.hi

theorem Better.tm {r x : Ra} (h : Better r x) (hr : r.OK) (b : Bool) {l l' : Ln} (hb : l'.many = l.many ∧ 0 ≤ l'.from_ ∧ l'.from_ ≤ l.from_ ∧ 1 ≤ l'.lo ∧ l'.lo ≤ l.lo ∧ 1 ≤ l'.hi ∧ l'.hi ≤ l.hi) : x.tm b l' ≤ r.tm b l := by
  obtain ⟨g1, g2, g3⟩ := hr.H
  have eH : x.H = r.H := by unfold Ra.H; rw [h.hours]
  unfold Ra.tm
  rw [eH]
  refine tm_mono g2 ?_ (fun y _ => h.f b y) (by omega) ?_
  · cases b <;> (unfold Ln.wet; simp; omega)
  · cases b <;> (unfold Ln.wet; simp; omega)

theorem leftT_fall {t t' : Ln → Nat} {hour : Nat} : ∀ (ls ls' : List Ln), ls'.length = ls.length → (∀ l ∈ ls, 1 ≤ l.many) → (∀ (j : Nat) l l', ls[j]? = some l → ls'[j]? = some l' → l'.many = l.many ∧ t' l' ≤ t l) → leftT t' ls' hour ≤ leftT t ls hour
  | [], [], _, _, _ => by simp [leftT]
  | [], _ :: _, h, _, _ => by simp at h
  | _ :: _, [], h, _, _ => by simp at h
  | l :: ls, l' :: ls', h, hm, hp => by
    have ih := leftT_fall (t := t) (t' := t') (hour := hour) ls ls' (by simpa using h) (fun x hx => hm x (List.mem_cons_of_mem _ hx)) fun j a a' h1 h2 => hp (j + 1) a a' h1 h2
    obtain ⟨p1, p2⟩ := hp 0 l l' rfl rfl
    have hl := hm l List.mem_cons_self
    unfold leftT at ih ⊢
    rw [List.filter_cons, List.filter_cons]
    by_cases h1 : hour < t' l'
    · rw [if_pos (by simpa using h1), if_pos (by simp; omega)]
      simp only [List.map_cons, List.sum_cons]; omega
    · rw [if_neg (by simpa using h1)]
      split
      · simp only [List.map_cons, List.sum_cons]; omega
      · exact ih
theorem Better.left {r x : Ra} (h : Better r x) (hr : r.OK) (b : Bool) (hour : Nat) : x.left b hour ≤ r.left b hour :=
  leftT_fall r.lines x.lines h.len (fun l hl => (hr.ln l hl).1) fun j l l' h1 h2 => ⟨(h.ln j l l' h1 h2).1, h.tm hr b (h.ln j l l' h1 h2)⟩
theorem Better.ready {r x : Ra} (h : Better r x) (hr : r.OK) (hour : Nat) : (r.ready hour).1 ≤ (x.ready hour).1 ∧ (r.ready hour).2 ≤ (x.ready hour).2 := by
  have h1 := h.left hr true hour
  have h2 := h.left hr false hour
  have h3 := h.stock
  have e : x.all = r.all := by unfold Ra.all; rw [h.tw]
  unfold Ra.ready
  rw [e]
  simp only
  omega
theorem revfind_up {p q : Nat → Bool} {n a : Nat} (hpq : ∀ y, p y = true → q y = true) (h : (List.range n).reverse.find? p = some a) : ∃ b, (List.range n).reverse.find? q = some b ∧ a ≤ b := by
  have hp : p a = true := by simpa using List.find?_some h
  have hm : a ∈ (List.range n).reverse := List.mem_of_find?_eq_some h
  cases hq : (List.range n).reverse.find? q with
  | none =>
    have := List.find?_eq_none.1 hq a hm
    rw [hpq a hp] at this
    simp at this
  | some b =>
    refine ⟨b, rfl, ?_⟩
    by_cases hab : a ≤ b
    · exact hab
    · exfalso
      have key : ∀ (m : Nat), (List.range m).reverse.find? q = some b → a < m → False := by
        intro m
        induction m with
        | zero => intro h1 h2; omega
        | succ m ih =>
          intro h1 h2
          rw [List.range_succ, List.reverse_append, List.reverse_singleton, List.singleton_append, List.find?_cons] at h1
          cases hqm : q m with
          | true =>
            rw [hqm] at h1
            simp only [Option.some.injEq] at h1
            omega
          | false =>
            rw [hqm] at h1
            by_cases e : a = m
            · rw [e] at hp
              have := hpq m hp
              rw [hqm] at this
              cases this
            · exact ih h1 (by omega)
      exact key n hq (by simpa using hm)
theorem Better.late {r x : Ra} (h : Better r x) {much hour a : Nat} (ha : r.late much hour = some a) : ∃ b, x.late much hour = some b ∧ a ≤ b :=
  revfind_up (fun y hy => decide_eq_true (Nat.le_trans (of_decide_eq_true hy) (driedN_mono (fun z _ => h.f true z) (Nat.le_refl _)))) ha

/-! ### The order of lines -/
def Ra.rev (r : Ra) : Ra := { r with lines := r.lines.reverse }
theorem rev_OK {r : Ra} (hr : r.OK) : r.rev.OK :=
  ⟨hr.tw, hr.stock, hr.hours, hr.price, by show r.lines.reverse.length ≤ 4; rw [List.length_reverse]; exact hr.nl, hr.sun, hr.rain, hr.perhaps, fun l hl => hr.ln l (List.mem_reverse.1 hl)⟩
theorem leftT_rev (t : Ln → Nat) (ls : List Ln) (hour : Nat) : leftT t ls.reverse hour = leftT t ls hour := by
  unfold leftT
  rw [List.filter_reverse, List.map_reverse, List.sum_reverse]
theorem rev_ready (r : Ra) (hour : Nat) : r.rev.ready hour = r.ready hour := by
  have e : ∀ b, r.rev.left b hour = r.left b hour := fun b => leftT_rev _ _ _
  have ea : r.rev.all = r.all := rfl
  unfold Ra.ready
  rw [e, e, ea]
  rfl
theorem rev_at {r : Ra} {j : Nat} (hj : j < r.lines.length) : r.rev.lines[r.lines.length - 1 - j]? = r.lines[j]? := by
  show r.lines.reverse[r.lines.length - 1 - j]? = _
  rw [List.getElem?_reverse (by omega)]
  congr 1
  omega

/-! ### What can be better -/
theorem dr_sun {S S' R h : Nat} (hS : S.testBit h = true → S'.testBit h = true) : dr S R h ≤ dr S' R h := by
  unfold dr
  split
  · exact Nat.le_refl _
  · cases h1 : S.testBit h
    · simp only [Bool.false_eq_true, if_false]
      split <;> omega
    · rw [if_pos rfl, if_pos (hS h1)]; exact Nat.le_refl _
def Ra.less (r : Ra) (bit : Nat) : Ra := { r with rain := (ndiff r.R bit : Nat) }
def Ra.surer (r : Ra) (bit : Nat) : Ra := { r with perhaps := (ndiff r.Pe bit : Nat) }
def Ra.sunny (r : Ra) (bit : Nat) : Ra := { r with sun := (r.S ||| bit : Nat) }
def Ra.withLine (r : Ra) (k : Nat) (l : Ln) : Ra := { r with lines := r.lines.set k l }
theorem same_ln {r : Ra} (hr : r.OK) (j : Nat) (l l' : Ln) (h : r.lines[j]? = some l) (h' : r.lines[j]? = some l') : l'.many = l.many ∧ 0 ≤ l'.from_ ∧ l'.from_ ≤ l.from_ ∧ 1 ≤ l'.lo ∧ l'.lo ≤ l.lo ∧ 1 ≤ l'.hi ∧ l'.hi ≤ l.hi := by
  rw [h] at h'
  cases h'
  have := hr.ln l (List.mem_of_getElem? h)
  omega
theorem less_ok {r : Ra} (hr : r.OK) (bit : Nat) : (r.less bit).OK ∧ Better r (r.less bit) := by
  have h0 := hr.rain
  have hle := ndiff_le r.R bit
  have eR : ((r.R : Nat) : Int) = r.rain := by unfold Ra.R; omega
  refine ⟨⟨hr.tw, hr.stock, hr.hours, hr.price, hr.nl, hr.sun, ⟨by show (0 : Int) ≤ ((_ : Nat) : Int); omega, by show ((ndiff r.R bit : Nat) : Int) < ((2 ^ r.hours.toNat : Nat) : Int); omega⟩, hr.perhaps, hr.ln⟩, ⟨rfl, rfl, Int.le_refl _, fun b h => ?_, rfl, same_ln hr⟩⟩
  refine dr_mono fun hb => ?_
  cases b
  · have hb : (ndiff r.R bit).testBit h = true := hb
    rw [ndiff_bit, Bool.and_eq_true] at hb
    exact hb.1
  · have hb : (ndiff r.R bit ||| r.Pe).testBit h = true := hb
    show (r.R ||| r.Pe).testBit h = true
    rw [Nat.testBit_or, ndiff_bit, Bool.or_eq_true, Bool.and_eq_true] at hb
    rw [Nat.testBit_or, Bool.or_eq_true]
    rcases hb with h1 | h1
    · exact .inl h1.1
    · exact .inr h1
theorem surer_ok {r : Ra} (hr : r.OK) (bit : Nat) : (r.surer bit).OK ∧ Better r (r.surer bit) := by
  have h0 := hr.perhaps
  have hle := ndiff_le r.Pe bit
  have eR : ((r.Pe : Nat) : Int) = r.perhaps := by unfold Ra.Pe; omega
  refine ⟨⟨hr.tw, hr.stock, hr.hours, hr.price, hr.nl, hr.sun, hr.rain, ⟨by show (0 : Int) ≤ ((_ : Nat) : Int); omega, by show ((ndiff r.Pe bit : Nat) : Int) < ((2 ^ r.hours.toNat : Nat) : Int); omega⟩, hr.ln⟩, ⟨rfl, rfl, Int.le_refl _, fun b h => ?_, rfl, same_ln hr⟩⟩
  refine dr_mono fun hb => ?_
  cases b
  · exact hb
  · have hb : (r.R ||| ndiff r.Pe bit).testBit h = true := hb
    show (r.R ||| r.Pe).testBit h = true
    rw [Nat.testBit_or, ndiff_bit, Bool.or_eq_true, Bool.and_eq_true] at hb
    rw [Nat.testBit_or, Bool.or_eq_true]
    rcases hb with h1 | h1
    · exact .inl h1
    · exact .inr h1.1
theorem sunny_ok {r : Ra} (hr : r.OK) {bit : Nat} (hb : bit < 2 ^ r.hours.toNat) : (r.sunny bit).OK ∧ Better r (r.sunny bit) := by
  have h0 := hr.sun
  have eR : ((r.S : Nat) : Int) = r.sun := by unfold Ra.S; omega
  have hlt := Nat.or_lt_two_pow (n := r.hours.toNat) (x := r.S) (y := bit) (by omega) hb
  refine ⟨⟨hr.tw, hr.stock, hr.hours, hr.price, hr.nl, ⟨by show (0 : Int) ≤ ((_ : Nat) : Int); omega, by show ((r.S ||| bit : Nat) : Int) < ((2 ^ r.hours.toNat : Nat) : Int); omega⟩, hr.rain, hr.perhaps, hr.ln⟩, ⟨rfl, rfl, Int.le_refl _, fun b h => ?_, rfl, same_ln hr⟩⟩
  refine dr_sun fun hs => ?_
  show (r.S ||| bit).testBit h = true
  rw [Nat.testBit_or, hs]; rfl
theorem withLine_ok {r : Ra} (hr : r.OK) {k : Nat} {l l' : Ln} (hl : r.lines[k]? = some l) (h : l'.many = l.many ∧ 0 ≤ l'.from_ ∧ l'.from_ ≤ l.from_ ∧ 1 ≤ l'.lo ∧ l'.lo ≤ l'.hi ∧ l'.lo ≤ l.lo ∧ l'.hi ≤ l.hi) : (r.withLine k l').OK ∧ Better r (r.withLine k l') := by
  have hlk := hr.ln l (List.mem_of_getElem? hl)
  refine ⟨⟨hr.tw, hr.stock, hr.hours, hr.price, by show (r.lines.set k l').length ≤ 4; rw [List.length_set]; exact hr.nl, hr.sun, hr.rain, hr.perhaps, fun y hy => ?_⟩, ⟨rfl, rfl, Int.le_refl _, fun b h => Nat.le_refl _, by show (r.lines.set k l').length = _; rw [List.length_set], fun j a a' h1 h2 => ?_⟩⟩
  · rcases List.mem_or_eq_of_mem_set hy with h1 | h1
    · exact hr.ln y h1
    · subst h1
      show _ ∧ _ ∧ _ ∧ y.from_ < r.hours ∧ _
      omega
  · have h2 : (r.lines.set k l')[j]? = some a' := h2
    by_cases e : k = j
    · subst e
      rw [hl] at h1
      cases h1
      rw [List.getElem?_set_self (List.getElem?_eq_some_iff.1 hl).1] at h2
      cases h2
      omega
    · rw [List.getElem?_set_ne e] at h2
      exact same_ln hr j a a' h1 h2
theorem drier_ok {r : Ra} (hr : r.OK) {k : Nat} {l : Ln} (hl : r.lines[k]? = some l) : (r.withLine k ⟨l.many, l.from_, max 1 (l.lo - 1), max (max 1 (l.lo - 1)) (l.hi - 1)⟩).OK ∧ Better r (r.withLine k ⟨l.many, l.from_, max 1 (l.lo - 1), max (max 1 (l.lo - 1)) (l.hi - 1)⟩) := by
  obtain ⟨l1, l2, l3, l4, l5, l6, l7⟩ := hr.ln l (List.mem_of_getElem? hl)
  exact withLine_ok hr hl ⟨rfl, l3, Int.le_refl _, by show (1 : Int) ≤ max 1 (l.lo - 1); omega, by show max 1 (l.lo - 1) ≤ max (max 1 (l.lo - 1)) (l.hi - 1); omega, by show max 1 (l.lo - 1) ≤ l.lo; omega, by show max (max 1 (l.lo - 1)) (l.hi - 1) ≤ l.hi; omega⟩
theorem earlier_ok {r : Ra} (hr : r.OK) {k : Nat} {l : Ln} (hl : r.lines[k]? = some l) : (r.withLine k ⟨l.many, max 0 (l.from_ - 1), l.lo, l.hi⟩).OK ∧ Better r (r.withLine k ⟨l.many, max 0 (l.from_ - 1), l.lo, l.hi⟩) := by
  obtain ⟨l1, l2, l3, l4, l5, l6, l7⟩ := hr.ln l (List.mem_of_getElem? hl)
  exact withLine_ok hr hl ⟨rfl, by show (0 : Int) ≤ max 0 (l.from_ - 1); omega, by show max 0 (l.from_ - 1) ≤ l.from_; omega, l5, l6, Int.le_refl _, Int.le_refl _⟩
theorem restock_ok {r : Ra} (hr : r.OK) {s : Int} (h0 : r.stock ≤ s) (h1 : s ≤ 60) : (r.stocked s).OK ∧ Better r (r.stocked s) :=
  ⟨stocked_OK hr (by have := hr.stock; omega), ⟨rfl, rfl, h0, fun b h => Nat.le_refl _, rfl, same_ln hr⟩⟩
/-- What is told of the three rails. -/
theorem told_three {r x : Ra} (hr : r.OK) (hx : x.OK) (h : Better r x) {hour many : Nat} (hh : hour ≤ r.H) (hm : many ≤ 60) :
    ∃ S0 S1 T0 T1 D I e : Int, specReady r hour = ((S0, S1), e) ∧ specReady x hour = ((T0, T1), e) ∧ specReady r.rev hour = ((S0, S1), e) ∧ specBuy r hour many = (D, e) ∧ specBuy x hour many = (I, e) ∧ S0 ≤ T0 ∧ S1 ≤ T1 ∧ I ≤ D := by
  have hok := (r.ok_iff).2 hr
  have hok' := (x.ok_iff).2 hx
  have hok2 := (r.rev.ok_iff).2 (rev_OK hr)
  have eH : x.H = r.H := by unfold Ra.H; rw [h.hours]
  have i1 : (r.isH hour && isMany many) = true := by rw [isH_in hr hh, isMany_in hm]; rfl
  have i2 : (x.isH hour && isMany many) = true := by rw [isH_in hx (by omega), isMany_in hm]; rfl
  have s1 := specReady_at (h := hour) hr hok hh
  have s2 := specReady_at (h := hour) hx hok' (by omega)
  have s3 := specReady_at (h := hour) (rev_OK hr) hok2 hh
  have s4 : specBuy r hour many = _ := ans_in hok i1 _ _
  have s5 : specBuy x hour many = _ := ans_in hok' i2 _ _
  rw [show r.rev.tw = r.tw from rfl, rev_ready] at s3
  rw [h.tw] at s2 s5
  have hb := h.ready hr hour
  cases hT : isT r.tw
  · rw [hT, if_neg (by decide)] at s1 s2 s3 s4 s5
    exact ⟨_, _, _, _, _, _, _, s1, s2, s3, s4, s5, Int.le_refl _, Int.le_refl _, Int.le_refl _⟩
  · rw [hT, if_pos rfl] at s1 s2 s3 s4 s5
    rw [Int.toNat_natCast] at s4 s5
    refine ⟨_, _, _, _, _, _, _, s1, s2, s3, s4, s5, by omega, by omega, ?_⟩
    split
    · exact Int.le_refl _
    · omega
theorem told_late {r x : Ra} (hr : r.OK) (hx : x.OK) (h : Better r x) {much hour : Nat} (hm : 1 ≤ much ∧ much ≤ 8) (hh : hour ≤ r.H) :
    ∃ p q e e' : Int, specLatest r much hour = (p, e) ∧ specLatest x much hour = (q, e') ∧ (e ≠ 0 ∨ (e = 0 ∧ e' = 0 ∧ p ≤ q)) := by
  have hok := (r.ok_iff).2 hr
  have hok' := (x.ok_iff).2 hx
  have eH : x.H = r.H := by unfold Ra.H; rw [h.hours]
  have i1 : (r.isH hour && wI (much : Int) 1 8) = true := by rw [isH_in hr hh]; exact decide_eq_true (by omega)
  have i2 : (x.isH hour && wI (much : Int) 1 8) = true := by rw [isH_in hx (by omega)]; exact decide_eq_true (by omega)
  unfold specLatest
  rw [hok, hok', i1, i2, if_pos rfl, if_pos rfl, if_pos rfl, if_pos rfl, Int.toNat_natCast, Int.toNat_natCast]
  cases ha : r.late much hour with
  | none => exact ⟨_, _, _, _, rfl, rfl, .inl (by decide)⟩
  | some a =>
    obtain ⟨b, hb, hab⟩ := h.late ha
    rw [hb]
    exact ⟨_, _, _, _, rfl, rfl, .inr ⟨rfl, rfl, by omega⟩⟩
theorem told_dry {r x : Ra} (hr : r.OK) (hx : x.OK) (h : Better r x) {j : Nat} (hj : j < r.lines.length) :
    ∃ A B A' B' e e' : Int, specDry r j = ((A, B), e) ∧ specDry x j = ((A', B'), e') ∧ specDry r.rev ((r.lines.length - 1 - j : Nat) : Int) = ((A, B), e) ∧ (e ≠ 0 ∨ (e = 0 ∧ e' = 0 ∧ A' ≤ A ∧ B' ≤ B)) := by
  have hok := (r.ok_iff).2 hr
  have hok' := (x.ok_iff).2 hx
  have hok2 := (r.rev.ok_iff).2 (rev_OK hr)
  have eH : x.H = r.H := by unfold Ra.H; rw [h.hours]
  have hl := h.len
  have g : r.lines[j]? = some r.lines[j] := List.getElem?_eq_getElem hj
  have g' : x.lines[j]? = some (x.lines[j]'(by omega)) := List.getElem?_eq_getElem (by omega)
  have gr := rev_at hj
  rw [g] at gr
  have hb := h.ln j _ _ g g'
  have t0 := h.tm hr false hb
  have t1 := h.tm hr true hb
  have s1 := specDry_at hok g
  have s2 := specDry_at hok' g'
  have s3 : specDry r.rev ((r.lines.length - 1 - j : Nat) : Int) = if r.tm true r.lines[j] ≤ r.H then ((((r.tm false r.lines[j] : Nat) : Int), ((r.tm true r.lines[j] : Nat) : Int)), 0) else ((0, 0), 11) := specDry_at hok2 gr
  rw [eH] at s2
  by_cases c : r.tm true r.lines[j] ≤ r.H
  · rw [if_pos c] at s1 s3
    rw [if_pos (by omega)] at s2
    exact ⟨_, _, _, _, _, _, s1, s2, s3, .inr ⟨rfl, rfl, by omega, by omega⟩⟩
  · rw [if_neg c] at s1 s3
    obtain ⟨y, hy⟩ : ∃ y, specDry x j = y := ⟨_, rfl⟩
    obtain ⟨⟨a, b⟩, d⟩ := y
    exact ⟨_, _, a, b, _, d, s1, hy, s3, .inl (by decide)⟩
end Go.Proofs.Ytcpkkjbkbdmopaa
