/- Proved here: laws that the statements need (AbA, AbB, AbC). No conditions but those that each law states. -/
import Derived.RangeFuncIn
import Derived.RangeFuncLeaves
import Derived.RecoverIn
import Derived.Orders
import Derived.Laws.AppendOwn
import Derived.KernelRfl
set_option linter.unusedSimpArgs false
set_option linter.unusedVariables false
namespace Go.Ab
inductive T where
  | lit (v : Value)
  | agg (cs : List T)
  | slice (es : Nat) (xs : List T)
  | ptr (x : T) (off : Nat)
  | fn (f : Fn) (first cap : List T)
  | iface (t : TypeId) (x : T)
  | map (sh : Option (List (Option IntKind)) × Option IntKind) (ks : List (Nat × List Int)) (xs : List T) (clk : Nat)
  | hole
  deriving Inhabited
def keyCell : Option IntKind → Int → Value
  | some k, n => .int k n
  | none, n => .bool (n != 0)
abbrev Kinds := List (Option IntKind)
def kc : Kinds → List Int → List Value
  | k :: ks, n :: ns => keyCell k n :: kc ks ns
  | _, _ => []
def cellEq : Option IntKind → Int → Int → Bool
  | some _, a, b => a == b
  | none, a, b => (a != 0) == (b != 0)
def kEq : Kinds → List Int → List Int → Bool
  | k :: ks, a :: as, b :: bs => cellEq k a b && kEq ks as bs
  | _, _, _ => true
def keyVal : Option (List (Option IntKind)) × Option IntKind → List Int → Value
  | (some ks, _), ns => .agg (kc ks ns).toArray
  | (none, k), ns => keyCell k (ns.headD 0)
def shKinds : Option (List (Option IntKind)) × Option IntKind → Kinds
  | (some ks, _) => ks
  | (none, k) => [k]
abbrev Hp := Nat → Go.Obj → Prop
def Lies (h : Hp) (b o : Nat) (vs : List Value) : Prop :=
  ∃ arr ty fr, h b (.cells arr ty fr) ∧ ∀ (j : Nat) v, vs[j]? = some v → arr[o + j]? = some v
def One (v : Value) : Prop := v.oneCell' = true
mutual
def RepT (h : Hp) : T → Value → Prop
  | .lit v, u => u = v
  | .agg cs, u => ∃ us : List Value, u = .agg us.toArray ∧ RepTs h cs us ∧ ∀ v ∈ us, One v
  | .slice es xs, u => ∃ a n c, u = .slice a n c ∧ n = xs.length ∧ n ≤ c ∧ ((n = 0 ∧ c = 0 ∧ xs = []) ∨ ∃ b o, a = some ⟨b, o, none⟩ ∧ RepRow h es xs b o)
  | .ptr x off, u => ∃ b o v, u = .pointer (some ⟨b, o + off, none⟩) ∧ RepT h x v ∧ (∀ u ∈ v.cells.toList, One u) ∧ Lies h b o v.cells.toList
  | .fn f fs cs, u => ∃ us vs : List Value, u = .func f us.toArray vs.toArray ∧ RepTs h fs us ∧ RepTs h cs vs
  | .iface t x, u => ∃ v, u = .iface t v ∧ RepT h x v
  | .map sh ks xs clk, u => ∃ b, ∃ ms : List MapEntry, u = .map (some b) ∧ h b (.map ms.toArray clk) ∧ RepMs h sh ks xs ms
  | .hole, _ => True
def RepTs (h : Hp) : List T → List Value → Prop
  | [], us => us = []
  | c :: cs, us => ∃ u us', us = u :: us' ∧ RepT h c u ∧ RepTs h cs us'
def RepRow (h : Hp) (es : Nat) : List T → Nat → Nat → Prop
  | [], _, _ => True
  | x :: xs, b, o => (∃ v, RepT h x v ∧ v.cells.size = es ∧ (∀ u ∈ v.cells.toList, One u) ∧ Lies h b o v.cells.toList) ∧ RepRow h es xs b (o + es)
def RepMs (h : Hp) (sh : Option (List (Option IntKind)) × Option IntKind) : List (Nat × List Int) → List T → List MapEntry → Prop
  | ks, [], ms => ks = [] ∧ ms = []
  | ks, x :: xs, ms => ∃ born key ks' v ms', ks = (born, key) :: ks' ∧ ms = { key := keyVal sh key, val := v, born := born } :: ms' ∧ key.length = (shKinds sh).length ∧ RepT h x v ∧ RepMs h sh ks' xs ms'
end
def Hp.le (h h' : Hp) : Prop := ∀ b o, h b o → h' b o
theorem Hp.le_refl (h : Hp) : h.le h := fun _ _ x => x
theorem Hp.le_trans {h h' h'' : Hp} (a : h.le h') (b : h'.le h'') : h.le h'' := fun _ _ x => b _ _ (a _ _ x)
def Hp.leC (h h' : Hp) : Prop := (∀ b arr ty fr, h b (.cells arr ty fr) → h' b (.cells arr ty fr)) ∧ ∀ b ms clk, h b (.map ms clk) → h' b (.map ms clk)
theorem Hp.le.C {h h' : Hp} (x : h.le h') : h.leC h' := ⟨fun _ _ _ _ y => x _ _ y, fun _ _ _ y => x _ _ y⟩
theorem Lies.monoC {h h' : Hp} (hh : h.leC h') {b o : Nat} {vs : List Value} (l : Lies h b o vs) : Lies h' b o vs :=
  let ⟨arr, ty, fr, e, r⟩ := l; ⟨arr, ty, fr, hh.1 _ _ _ _ e, r⟩
mutual
theorem RepT.monoC {h h' : Hp} (hh : h.leC h') : ∀ (x : T) (v : Value), RepT h x v → RepT h' x v
  | .lit _, _, r => r
  | .agg cs, _, r => by
    unfold RepT at r ⊢
    obtain ⟨us, e, r, o⟩ := r
    exact ⟨us, e, RepTs.monoC hh cs us r, o⟩
  | .slice es xs, _, r => by
    unfold RepT at r ⊢
    obtain ⟨a, n, c, e, hn, hc, r⟩ := r
    refine ⟨a, n, c, e, hn, hc, ?_⟩
    rcases r with r | ⟨b, o, ha, r⟩
    · exact .inl r
    · exact .inr ⟨b, o, ha, RepRow.monoC hh es xs b o r⟩
  | .ptr x off, _, r => by
    unfold RepT at r ⊢
    obtain ⟨b, o, v, e, r, h1, l⟩ := r
    exact ⟨b, o, v, e, RepT.monoC hh x v r, h1, l.monoC hh⟩
  | .fn f fs cs, _, r => by
    unfold RepT at r ⊢
    obtain ⟨us, vs, e, r1, r2⟩ := r
    exact ⟨us, vs, e, RepTs.monoC hh fs us r1, RepTs.monoC hh cs vs r2⟩
  | .iface t x, _, r => by
    unfold RepT at r ⊢
    obtain ⟨v, e, r⟩ := r
    exact ⟨v, e, RepT.monoC hh x v r⟩
  | .map sh ks xs clk, _, r => by
    unfold RepT at r ⊢
    obtain ⟨b, ms, e, h1, r⟩ := r
    exact ⟨b, ms, e, hh.2 _ _ _ h1, RepMs.monoC hh sh ks xs ms r⟩
  | .hole, _, _ => by unfold RepT; trivial
theorem RepTs.monoC {h h' : Hp} (hh : h.leC h') : ∀ (xs : List T) (vs : List Value), RepTs h xs vs → RepTs h' xs vs
  | [], _, r => r
  | c :: cs, _, r => by
    unfold RepTs at r ⊢
    obtain ⟨u, us, e, r1, r2⟩ := r
    exact ⟨u, us, e, RepT.monoC hh c u r1, RepTs.monoC hh cs us r2⟩
theorem RepRow.monoC {h h' : Hp} (hh : h.leC h') (es : Nat) : ∀ (xs : List T) (b o : Nat), RepRow h es xs b o → RepRow h' es xs b o
  | [], _, _, _ => by unfold RepRow; trivial
  | x :: xs, b, o, r => by
    unfold RepRow at r ⊢
    obtain ⟨⟨v, r1, e, h1, l⟩, r2⟩ := r
    exact ⟨⟨v, RepT.monoC hh x v r1, e, h1, l.monoC hh⟩, RepRow.monoC hh es xs b (o + es) r2⟩
theorem RepMs.monoC {h h' : Hp} (hh : h.leC h') (sh : Option (List (Option IntKind)) × Option IntKind) : ∀ (ks : List (Nat × List Int)) (xs : List T) (ms : List MapEntry), RepMs h sh ks xs ms → RepMs h' sh ks xs ms
  | ks, [], ms, r => by unfold RepMs at r ⊢; exact r
  | ks, x :: xs, ms, r => by
    unfold RepMs at r ⊢
    obtain ⟨born, key, ks', v, ms', e1, e2, e3, r1, r2⟩ := r
    exact ⟨born, key, ks', v, ms', e1, e2, e3, RepT.monoC hh x v r1, RepMs.monoC hh sh ks' xs ms' r2⟩
end
theorem Lies.mono {h h' : Hp} (hh : h.le h') {b o : Nat} {vs : List Value} (l : Lies h b o vs) : Lies h' b o vs := l.monoC hh.C
theorem RepT.mono {h h' : Hp} (hh : h.le h') (x : T) (v : Value) (r : RepT h x v) : RepT h' x v := RepT.monoC hh.C x v r
theorem RepTs.mono {h h' : Hp} (hh : h.le h') (xs : List T) (vs : List Value) (r : RepTs h xs vs) : RepTs h' xs vs := RepTs.monoC hh.C xs vs r
theorem RepRow.mono {h h' : Hp} (hh : h.le h') (es : Nat) (xs : List T) (b o : Nat) (r : RepRow h es xs b o) : RepRow h' es xs b o := RepRow.monoC hh.C es xs b o r
theorem RepMs.mono {h h' : Hp} (hh : h.le h') (sh : Option (List (Option IntKind)) × Option IntKind) (ks : List (Nat × List Int)) (xs : List T) (ms : List MapEntry) (r : RepMs h sh ks xs ms) : RepMs h' sh ks xs ms := RepMs.monoC hh.C sh ks xs ms r
def T.lits? : List T → Option (List Value)
  | [] => some []
  | .lit v :: cs => if v.oneCell' then (T.lits? cs).map (v :: ·) else none
  | _ :: _ => none
def T.val? : T → Option Value
  | .lit v => some v
  | .agg cs => (T.lits? cs).map fun vs => .agg vs.toArray
  | _ => none
def T.ofV : Value → T
  | .agg cs => if cs.toList.all (·.oneCell') then .agg (cs.toList.map .lit) else .lit (.agg cs)
  | v => .lit v
theorem T.lits?_rep {h : Hp} : ∀ {cs : List T} {vs us : List Value}, T.lits? cs = some vs → RepTs h cs us → us = vs
  | [], vs, us, e, r => by unfold RepTs at r; simp [T.lits?] at e; rw [r, e]
  | .lit v :: cs, vs, us, e, r => by
    unfold RepTs at r
    obtain ⟨u, us', rfl, r1, r2⟩ := r
    unfold RepT at r1
    subst r1
    simp only [T.lits?] at e
    split at e
    · obtain ⟨ws, e1, rfl⟩ := Option.map_eq_some_iff.1 e
      rw [T.lits?_rep e1 r2]
    · cases e
  | .agg _ :: _, _, _, e, _ | .slice _ _ :: _, _, _, e, _ | .ptr _ _ :: _, _, _, e, _ | .fn _ _ _ :: _, _, _, e, _ | .iface _ _ :: _, _, _, e, _ | .map _ _ _ _ :: _, _, _, e, _ | .hole :: _, _, _, e, _ => by simp [T.lits?] at e
theorem T.val?_rep {h : Hp} {x : T} {v u : Value} (e : x.val? = some v) (r : RepT h x u) : u = v := by
  cases x with
  | lit w => unfold RepT at r; simp [T.val?] at e; rw [r, e]
  | agg cs =>
    unfold RepT at r
    obtain ⟨us, rfl, r1, _⟩ := r
    simp only [T.val?] at e
    obtain ⟨ws, e1, rfl⟩ := Option.map_eq_some_iff.1 e
    rw [T.lits?_rep e1 r1]
  | _ => simp [T.val?] at e
theorem T.ofV_rep {h : Hp} (v : Value) : RepT h (T.ofV v) v := by
  unfold T.ofV
  split
  · rename_i cs
    split
    · rename_i ho
      unfold RepT
      refine ⟨cs.toList, by simp, ?_, fun v hv => List.all_eq_true.1 ho v hv⟩
      have : ∀ l : List Value, RepTs h (l.map .lit) l := fun l => by
        induction l with
        | nil => unfold RepTs; rfl
        | cons a l ih => unfold RepTs; exact ⟨a, l, rfl, by unfold RepT; rfl, ih⟩
      exact this _
    · unfold RepT; rfl
  · unfold RepT; rfl
def tabT (l : List Nat) : T := .agg (l.map fun n : Nat => .lit (.int .u8 n))
def tab32 : List Nat := [0, 1, 28, 2, 29, 14, 24, 3, 30, 22, 20, 15, 25, 17, 4, 8, 31, 27, 13, 23, 21, 19, 16, 7, 26, 12, 18, 6, 11, 5, 10, 9]
def tab64 : List Nat := [0, 1, 56, 2, 57, 49, 28, 3, 61, 58, 42, 50, 38, 29, 17, 4, 62, 47, 59, 36, 45, 43, 51, 22, 53, 39, 33, 30, 24, 18, 12, 5, 63, 55, 48, 27, 60, 41, 37, 16, 46, 35, 44, 21, 52, 32, 23, 11, 54, 26, 40, 15, 34, 20, 31, 10, 25, 14, 19, 9, 13, 8, 7, 6]
def globT (P : Program) (g : Nat) : Option T := match P.globals[g]? with
  | some x => if x.name == "math/bits.deBruijn64tab" then some (tabT tab64) else if x.name == "math/bits.deBruijn32tab" then some (tabT tab32) else none
  | none => none
def GlobOK (P : Program) (h : Hp) : Prop := ∀ g x, globT P g = some x → RepT h (.ptr x 0) (.pointer (some ⟨g, 0, none⟩))
theorem GlobOK.none {P : Program} {h : Hp} (hn : ((List.range P.globals.size).all fun g => (globT P g).isNone) = true) : GlobOK P h := fun g x e => by
  by_cases hg : g < P.globals.size
  · have := List.all_eq_true.1 hn g (List.mem_range.2 hg)
    rw [e] at this
    cases this
  · unfold globT at e
    rw [Array.getElem?_eq_none (by omega)] at e
    cases e
theorem GlobOK.mono {P : Program} {h h' : Hp} (hh : h.le h') (x : GlobOK P h) : GlobOK P h' := fun g y e => (x g y e).mono hh
theorem GlobOK.monoC {P : Program} {h h' : Hp} (hh : h.leC h') (x : GlobOK P h) : GlobOK P h' := fun g y e => RepT.monoC hh _ _ (x g y e)
inductive E where
  | t (x : T)
  | undef
  | ptr (id off : Nat)
  | elt (id n es i off : Nat)
  | loc (id n : Nat)
  | map (id : Nat)
  | iter (id : Nat)
  | fn (f : Fn) (first cap : List E)
  | iface (t : TypeId) (x : E)
  | agg (cs : List E)
  | tup (cs : List E)
  | yld
  | vp (cs : List E) (off : Nat)
  | sub (id n es lo len : Nat)
  deriving Inhabited
inductive AO where
  | cells (cs : List E)
  | row (es : Nat) (xs : List E)
  | map (sh : Option (List (Option IntKind)) × Option IntKind) (ks : List (Nat × List Int)) (xs : List T) (clk : Nat)
  | iter (m : E) (since : Nat) (seen : List Nat) (last : Nat)
  | raw (o : Go.Obj)
  deriving Inhabited
def AO.len? : AO → Option Nat
  | .row _ xs => some xs.length
  | _ => none
def rowLen (σ : List AO) (id : Nat) : Option Nat := (σ[id]?).bind AO.len?
abbrev Pl := Nat → Option (Nat × Nat)
mutual
def RepE (yl : Nat) (ι : Pl) (σ : List AO) (h : Hp) : E → Value → Prop
  | .t x, v => RepT h x v
  | .undef, _ => True
  | .ptr id off, v => id < σ.length ∧ rowLen σ id = none ∧ ∃ b c, ι id = some (b, c) ∧ v = .pointer (some ⟨b, off, none⟩)
  | .elt id n es i off, v => id < σ.length ∧ (rowLen σ id).isSome = true ∧ ((rowLen σ id).getD 0 < n → False) ∧ One v ∧ (rowLen σ id = some n → ∃ b c, ι id = some (b, c) ∧ v = .pointer (some ⟨b, i * es + off, none⟩))
  | .loc id n, v => id < σ.length ∧ (rowLen σ id).isSome = true ∧ ((rowLen σ id).getD 0 < n → False) ∧ One v ∧ (rowLen σ id = some n → (∃ b c, ι id = some (b, c) ∧ v = .slice (some ⟨b, 0, none⟩) n c) ∨ (ι id = none ∧ n = 0 ∧ v = .slice none 0 0))
  | .map id, v => id < σ.length ∧ rowLen σ id = none ∧ ∃ b c, ι id = some (b, c) ∧ v = .map (some b)
  | .iter id, v => id < σ.length ∧ rowLen σ id = none ∧ ∃ b c, ι id = some (b, c) ∧ v = .pointer (some ⟨b, 0, none⟩)
  | .fn f fs cs, v => ∃ us vs : List Value, v = .func f us.toArray vs.toArray ∧ RepEs yl ι σ h fs us ∧ RepEs yl ι σ h cs vs
  | .iface t x, v => ∃ u, v = .iface t u ∧ RepE yl ι σ h x u
  | .agg cs, v => ∃ us : List Value, v = .agg us.toArray ∧ RepEs yl ι σ h cs us ∧ ∀ u ∈ us, One u
  | .tup cs, v => ∃ us : List Value, v = .tuple us.toArray ∧ RepEs yl ι σ h cs us
  | .yld, v => v = .func (.yield yl) #[] #[]
  | .vp cs off, v => ∃ (b : Nat) (us : List Value), v = .pointer (some ⟨b, off, none⟩) ∧ RepEs yl ι σ h cs us ∧ (∀ u ∈ us, One u) ∧ Lies h b 0 us
  | .sub id n es lo len, v => id < σ.length ∧ (rowLen σ id).isSome = true ∧ ((rowLen σ id).getD 0 < n → False) ∧ One v ∧
      (rowLen σ id = some n → lo + len ≤ n ∧ ((∃ b c o, ι id = some (b, c) ∧ v = .slice (some ⟨b, o, none⟩) len (c - lo) ∧ (o = lo * es ∨ len = 0) ∧ (lo = 0 → o = 0)) ∨ (ι id = none ∧ n = 0 ∧ v = .slice none 0 0)))
def RepEs (yl : Nat) (ι : Pl) (σ : List AO) (h : Hp) : List E → List Value → Prop
  | [], us => us = []
  | c :: cs, us => ∃ u us', us = u :: us' ∧ RepE yl ι σ h c u ∧ RepEs yl ι σ h cs us'
end
structure Goes (ι : Pl) (σ : List AO) (ι' : Pl) (σ' : List AO) : Prop where
  len : σ.length ≤ σ'.length
  fix : ∀ id, id < σ.length → rowLen σ id = none → rowLen σ' id = none ∧ ι' id = ι id
  row : ∀ id n, id < σ.length → rowLen σ id = some n → ∃ m, rowLen σ' id = some m ∧ n ≤ m ∧ (m = n → ι' id = ι id)
theorem Goes.refl (ι : Pl) (σ : List AO) : Goes ι σ ι σ := ⟨Nat.le_refl _, fun _ _ h => ⟨h, rfl⟩, fun _ n _ h => ⟨n, h, Nat.le_refl _, fun _ => rfl⟩⟩
theorem Goes.trans {ι ι' ι'' : Pl} {σ σ' σ'' : List AO} (a : Goes ι σ ι' σ') (b : Goes ι' σ' ι'' σ'') : Goes ι σ ι'' σ'' :=
  ⟨Nat.le_trans a.len b.len, fun id hi h => by
    obtain ⟨h1, e1⟩ := a.fix id hi h
    obtain ⟨h2, e2⟩ := b.fix id (Nat.lt_of_lt_of_le hi a.len) h1
    exact ⟨h2, e2.trans e1⟩, fun id n hi h => by
    obtain ⟨m, h1, l1, e1⟩ := a.row id n hi h
    obtain ⟨k, h2, l2, e2⟩ := b.row id m (Nat.lt_of_lt_of_le hi a.len) h1
    exact ⟨k, h2, Nat.le_trans l1 l2, fun e => by
      have : m = n := by omega
      exact (e2 (by omega)).trans (e1 this)⟩⟩
mutual
theorem RepE.monoC {yl : Nat} {ι ι' : Pl} {σ σ' : List AO} {h h' : Hp} (g : Goes ι σ ι' σ') (hh : h.leC h') : ∀ (e : E) (v : Value), RepE yl ι σ h e v → RepE yl ι' σ' h' e v
  | .t x, v, r => by unfold RepE at r ⊢; exact r.monoC hh
  | .undef, _, _ => by unfold RepE; trivial
  | .ptr id off, v, r => by
    unfold RepE at r ⊢
    obtain ⟨h1, h2, h3⟩ := r
    obtain ⟨h4, h5⟩ := g.fix id h1 h2
    exact ⟨Nat.lt_of_lt_of_le h1 g.len, h4, by rw [h5]; exact h3⟩
  | .elt id n es i off, v, r => by
    unfold RepE at r ⊢
    obtain ⟨h1, h2, h3, h0, h4⟩ := r
    obtain ⟨k, hk⟩ := Option.isSome_iff_exists.1 h2
    obtain ⟨m, h5, h6, h7⟩ := g.row id k h1 hk
    rw [hk] at h3 h4
    refine ⟨Nat.lt_of_lt_of_le h1 g.len, by rw [h5]; rfl, by rw [h5]; simp at h3 ⊢; omega, h0, ?_⟩
    rw [h5]
    intro e
    simp at e h3
    subst e
    obtain rfl : k = m := by omega
    rw [h7 rfl]
    exact h4 rfl
  | .loc id n, v, r => by
    unfold RepE at r ⊢
    obtain ⟨h1, h2, h3, h0, h4⟩ := r
    obtain ⟨k, hk⟩ := Option.isSome_iff_exists.1 h2
    obtain ⟨m, h5, h6, h7⟩ := g.row id k h1 hk
    rw [hk] at h3 h4
    refine ⟨Nat.lt_of_lt_of_le h1 g.len, by rw [h5]; rfl, by rw [h5]; simp at h3 ⊢; omega, h0, ?_⟩
    rw [h5]
    intro e
    simp at e h3
    subst e
    obtain rfl : k = m := by omega
    rw [h7 rfl]
    exact h4 rfl
  | .map id, v, r => by
    unfold RepE at r ⊢
    obtain ⟨h1, h2, h3⟩ := r
    obtain ⟨h4, h5⟩ := g.fix id h1 h2
    exact ⟨Nat.lt_of_lt_of_le h1 g.len, h4, by rw [h5]; exact h3⟩
  | .iter id, v, r => by
    unfold RepE at r ⊢
    obtain ⟨h1, h2, h3⟩ := r
    obtain ⟨h4, h5⟩ := g.fix id h1 h2
    exact ⟨Nat.lt_of_lt_of_le h1 g.len, h4, by rw [h5]; exact h3⟩
  | .fn f fs cs, v, r => by
    unfold RepE at r ⊢
    obtain ⟨us, vs, e, r1, r2⟩ := r
    exact ⟨us, vs, e, RepEs.monoC g hh fs us r1, RepEs.monoC g hh cs vs r2⟩
  | .iface t x, v, r => by
    unfold RepE at r ⊢
    obtain ⟨u, e, r1⟩ := r
    exact ⟨u, e, RepE.monoC g hh x u r1⟩
  | .agg cs, v, r => by
    unfold RepE at r ⊢
    obtain ⟨us, e, r1, o⟩ := r
    exact ⟨us, e, RepEs.monoC g hh cs us r1, o⟩
  | .tup cs, v, r => by
    unfold RepE at r ⊢
    obtain ⟨us, e, r1⟩ := r
    exact ⟨us, e, RepEs.monoC g hh cs us r1⟩
  | .yld, v, r => by unfold RepE at r ⊢; exact r
  | .vp cs off, v, r => by
    unfold RepE at r ⊢
    obtain ⟨b, us, e, r1, o, l⟩ := r
    exact ⟨b, us, e, RepEs.monoC g hh cs us r1, o, l.monoC hh⟩
  | .sub id n es lo len, v, r => by
    unfold RepE at r ⊢
    obtain ⟨h1, h2, h3, h0, h4⟩ := r
    obtain ⟨k, hk⟩ := Option.isSome_iff_exists.1 h2
    obtain ⟨m, h5, h6, h7⟩ := g.row id k h1 hk
    rw [hk] at h3 h4
    refine ⟨Nat.lt_of_lt_of_le h1 g.len, by rw [h5]; rfl, by rw [h5]; simp at h3 ⊢; omega, h0, ?_⟩
    rw [h5]
    intro e
    simp at e h3
    subst e
    obtain rfl : k = m := by omega
    rw [h7 rfl]
    exact h4 rfl
theorem RepEs.monoC {yl : Nat} {ι ι' : Pl} {σ σ' : List AO} {h h' : Hp} (g : Goes ι σ ι' σ') (hh : h.leC h') : ∀ (es : List E) (vs : List Value), RepEs yl ι σ h es vs → RepEs yl ι' σ' h' es vs
  | [], _, r => by unfold RepEs at r ⊢; exact r
  | c :: cs, _, r => by
    unfold RepEs at r ⊢
    obtain ⟨u, us, e, r1, r2⟩ := r
    exact ⟨u, us, e, RepE.monoC g hh c u r1, RepEs.monoC g hh cs us r2⟩
end
theorem RepE.mono {yl : Nat} {ι ι' : Pl} {σ σ' : List AO} {h h' : Hp} (g : Goes ι σ ι' σ') (hh : h.le h') (e : E) (v : Value) (r : RepE yl ι σ h e v) : RepE yl ι' σ' h' e v := RepE.monoC g hh.C e v r
theorem RepEs.mono {yl : Nat} {ι ι' : Pl} {σ σ' : List AO} {h h' : Hp} (g : Goes ι σ ι' σ') (hh : h.le h') (es : List E) (vs : List Value) (r : RepEs yl ι σ h es vs) : RepEs yl ι' σ' h' es vs := RepEs.monoC g hh.C es vs r
section
variable {yl : Nat} {ι : Pl} {σ : List AO} {h : Hp}
theorem RepTs_iff : ∀ {xs : List T} {vs : List Value}, RepTs h xs vs ↔ xs.length = vs.length ∧ ∀ (i : Nat) x v, xs[i]? = some x → vs[i]? = some v → RepT h x v
  | [], vs => by
    unfold RepTs
    constructor
    · rintro rfl; simp
    · rintro ⟨e, _⟩; exact List.eq_nil_of_length_eq_zero (by simpa using e.symm)
  | c :: cs, vs => by
    unfold RepTs
    constructor
    · rintro ⟨u, us, rfl, r1, r2⟩
      obtain ⟨hl, hr⟩ := RepTs_iff.1 r2
      refine ⟨by simp [hl], fun i x v hx hv => ?_⟩
      cases i with
      | zero => simp at hx hv; subst hx; subst hv; exact r1
      | succ i => exact hr i x v (by simpa using hx) (by simpa using hv)
    · rintro ⟨hl, hr⟩
      cases vs with
      | nil => simp at hl
      | cons u us => exact ⟨u, us, rfl, hr 0 c u rfl rfl, RepTs_iff.2 ⟨by simpa using hl, fun i x v hx hv => hr (i + 1) x v (by simpa using hx) (by simpa using hv)⟩⟩
theorem RepEs_iff : ∀ {xs : List E} {vs : List Value}, RepEs yl ι σ h xs vs ↔ xs.length = vs.length ∧ ∀ (i : Nat) x v, xs[i]? = some x → vs[i]? = some v → RepE yl ι σ h x v
  | [], vs => by
    unfold RepEs
    constructor
    · rintro rfl; simp
    · rintro ⟨e, _⟩; exact List.eq_nil_of_length_eq_zero (by simpa using e.symm)
  | c :: cs, vs => by
    unfold RepEs
    constructor
    · rintro ⟨u, us, rfl, r1, r2⟩
      obtain ⟨hl, hr⟩ := RepEs_iff.1 r2
      refine ⟨by simp [hl], fun i x v hx hv => ?_⟩
      cases i with
      | zero => simp at hx hv; subst hx; subst hv; exact r1
      | succ i => exact hr i x v (by simpa using hx) (by simpa using hv)
    · rintro ⟨hl, hr⟩
      cases vs with
      | nil => simp at hl
      | cons u us => exact ⟨u, us, rfl, hr 0 c u rfl rfl, RepEs_iff.2 ⟨by simpa using hl, fun i x v hx hv => hr (i + 1) x v (by simpa using hx) (by simpa using hv)⟩⟩
end
end Go.Ab
namespace Go.Ab
structure Cx where
  P : Program
  yl : Nat
  k0 : Nat
  nt : Nat
  sz0 : Nat
  hist : Nat → (Nat → Prop) → World → Prop
  keep : ∀ k D w w', hist k D w → (∀ b, D b → w'.heap[b]? = w.heap[b]?) → w.heap.size ≤ w'.heap.size → w'.os = w.os → w'.tape = w.tape → w'.output = w.output → hist k D w'
def RepOb (yl : Nat) (ι : Pl) (σ : List AO) (h : Hp) : AO → Nat → Go.Obj → Prop
  | .cells cs, _, ob => ∃ (us : List Value) (ty : TypeId), ob = .cells us.toArray ty (0, 0) ∧ RepEs yl ι σ h cs us ∧ ∀ u ∈ us, One u
  | .row es xs, c, ob => ∃ (vs rest : List Value) (ty : TypeId), ob = .cells (vs.flatMap (·.cells.toList) ++ rest).toArray ty (0, 0) ∧ RepEs yl ι σ h xs vs ∧
      (∀ v ∈ vs, v.cells.size = es ∧ ∀ u ∈ v.cells.toList, One u) ∧ xs.length * es + rest.length = c * es ∧ xs.length ≤ c ∧ c ≤ maxLen ∧ 0 < es
  | .map sh ks xs clk, _, ob => ∃ ms : List MapEntry, ob = .map ms.toArray clk ∧ RepMs h sh ks xs ms
  | .iter m since seen last, _, ob => ∃ mb, RepE yl ι σ h m (.map (some mb)) ∧ ob = .mapIter (some mb) since seen.toArray last
  | .raw o, _, ob => ob = o
def RepO (yl : Nat) (ι : Pl) (σ : List AO) (h : Hp) (w : World) (o : AO) : Option (Nat × Nat) → Prop
  | some (b, c) => ∃ ob, w.heap[b]? = some ob ∧ RepOb yl ι σ h o c ob
  | none => ∃ es xs, o = .row es xs ∧ (0 < es → xs = [])
theorem RepOb.monoC {yl : Nat} {ι ι' : Pl} {σ σ' : List AO} {h h' : Hp} (g : Goes ι σ ι' σ') (hh : h.leC h') {o : AO} {c : Nat} {ob : Go.Obj} (r : RepOb yl ι σ h o c ob) : RepOb yl ι' σ' h' o c ob := by
  cases o with
  | cells cs => obtain ⟨us, ty, e, r, o⟩ := r; exact ⟨us, ty, e, r.monoC g hh, o⟩
  | row es xs => obtain ⟨vs, rest, ty, e, r, o⟩ := r; exact ⟨vs, rest, ty, e, r.monoC g hh, o⟩
  | map sh ks xs clk => obtain ⟨ms, e, r⟩ := r; exact ⟨ms, e, r.monoC hh⟩
  | iter m since seen last =>
    obtain ⟨mb, r, e⟩ := r
    exact ⟨mb, r.monoC g hh, e⟩
  | raw o => exact r
theorem RepOb.mono {yl : Nat} {ι ι' : Pl} {σ σ' : List AO} {h h' : Hp} (g : Goes ι σ ι' σ') (hh : h.le h') {o : AO} {c : Nat} {ob : Go.Obj} (r : RepOb yl ι σ h o c ob) : RepOb yl ι' σ' h' o c ob := RepOb.monoC g hh.C r
def hp (vis : Nat → Prop) (w : World) : Hp := fun b o => vis b ∧ w.heap[b]? = some o
structure Mem (C : Cx) (k : Nat) (σ : List AO) (w : World) (ι : Pl) (vis D : Nat → Prop) : Prop where
  glob : GlobOK C.P (hp vis w)
  inj : ∀ i j b c c', ι i = some (b, c) → ι j = some (b, c') → i = j
  own : ∀ i b c, ι i = some (b, c) → i < σ.length ∧ b < w.heap.size ∧ ¬ vis b ∧ ¬ D b
  visLt : ∀ b, vis b → b < w.heap.size
  DLt : ∀ b, D b → b < w.heap.size
  visD : ∀ b, vis b → ¬ D b
  objs : ∀ (i : Nat) o, σ[i]? = some o → RepO C.yl ι σ (hp vis w) w o (ι i)
  hist : C.hist k D w
structure Step (w w' : World) (row : Option Nat) : Prop where
  size : w.heap.size ≤ w'.heap.size
  os : w'.os = w.os
  tape : w'.tape = w.tape
  output : w'.output = w.output
  block : ∀ k, k < w.heap.size → some k ≠ row → w'.heap[k]? = w.heap[k]?
theorem heap_old (w : World) (o : Go.Obj) (k : Nat) (hk : k < w.heap.size) : (w.alloc o).heap[k]? = w.heap[k]? := heap_alloc_old w o k hk
theorem Step.alloc (w : World) (o : Go.Obj) : Step w (w.alloc o) none := ⟨by simp, rfl, rfl, rfl, fun k hk _ => heap_alloc_old w o k hk⟩
theorem hp_step {vis : Nat → Prop} {w w' : World} {row : Option Nat} (st : Step w w' row) (hv : ∀ b, vis b → b < w.heap.size ∧ some b ≠ row) : (hp vis w).le (hp vis w') :=
  fun b _ ⟨h1, h2⟩ => ⟨h1, by rw [st.block b (hv b h1).1 (hv b h1).2]; exact h2⟩
theorem Mem.turn {C : Cx} {k : Nat} {σ : List AO} {w w' : World} {ι ι' : Pl} {vis D : Nat → Prop} (M : Mem C k σ w ι vis D) {id : Nat} (hid : id < σ.length) (o' : AO)
    {row : Option Nat} (st : Step w w' row) (hrow : ∀ b, row = some b → ∃ c, ι id = some (b, c))
    (hother : ∀ j, j ≠ id → ι' j = ι j) (hnew : ∀ b c, ι' id = some (b, c) → (∃ c', ι id = some (b, c')) ∨ (w.heap.size ≤ b ∧ b < w'.heap.size))
    (g : Goes ι σ ι' (σ.set id o')) (hr : RepO C.yl ι' (σ.set id o') (hp vis w') w' o' (ι' id)) : Mem C k (σ.set id o') w' ι' vis D := by
  have hv : ∀ b, vis b → b < w.heap.size ∧ some b ≠ row := fun b hb => ⟨M.visLt b hb, fun e => by
    obtain ⟨c, hc⟩ := hrow b e.symm
    exact (M.own id b c hc).2.2.1 hb⟩
  have hD : ∀ b, D b → b < w.heap.size ∧ some b ≠ row := fun b hb => ⟨M.DLt b hb, fun e => by
    obtain ⟨c, hc⟩ := hrow b e.symm
    exact (M.own id b c hc).2.2.2 hb⟩
  have hle := hp_step st hv
  refine ⟨M.glob.mono hle, ?_, ?_, ?_, ?_, M.visD, ?_, ?_⟩
  · intro i j b c c' hi hj
    by_cases ei : i = id <;> by_cases ej : j = id
    · rw [ei, ej]
    · subst ei
      rw [hother j ej] at hj
      rcases hnew b c hi with ⟨c'', hc⟩ | ⟨h1, _⟩
      · exact M.inj _ _ b c'' c' hc hj
      · exact absurd (M.own j b c' hj).2.1 (by omega)
    · subst ej
      rw [hother i ei] at hi
      rcases hnew b c' hj with ⟨c'', hc⟩ | ⟨h1, _⟩
      · exact M.inj _ _ b c c'' hi hc
      · exact absurd (M.own i b c hi).2.1 (by omega)
    · rw [hother i ei] at hi
      rw [hother j ej] at hj
      exact M.inj _ _ b c c' hi hj
  · intro i b c hi
    rw [List.length_set]
    by_cases ei : i = id
    · subst ei
      rcases hnew b c hi with ⟨c'', hc⟩ | ⟨h1, h2⟩
      · obtain ⟨h3, h4, h5⟩ := M.own _ b c'' hc
        exact ⟨h3, Nat.lt_of_lt_of_le h4 st.size, h5⟩
      · exact ⟨hid, h2, fun hb => absurd (M.visLt b hb) (by omega), fun hb => absurd (M.DLt b hb) (by omega)⟩
    · rw [hother i ei] at hi
      obtain ⟨h3, h4, h5⟩ := M.own _ b c hi
      exact ⟨h3, Nat.lt_of_lt_of_le h4 st.size, h5⟩
  · exact fun b hb => Nat.lt_of_lt_of_le (M.visLt b hb) st.size
  · exact fun b hb => Nat.lt_of_lt_of_le (M.DLt b hb) st.size
  · intro i o hi
    by_cases ei : i = id
    · subst ei
      rw [List.getElem?_set_self hid] at hi
      cases hi
      exact hr
    · rw [List.getElem?_set_ne (Ne.symm ei)] at hi
      have ho := M.objs i o hi
      rw [hother i ei]
      cases hp : ι i with
      | none => rw [hp] at ho; exact ho
      | some bc =>
        obtain ⟨b, c⟩ := bc
        rw [hp] at ho
        obtain ⟨ob, h1, h2⟩ := ho
        refine ⟨ob, ?_, h2.mono g hle⟩
        rw [st.block b (M.own i b c hp).2.1 (fun e => by
          obtain ⟨c', hc⟩ := hrow b e.symm
          exact ei (M.inj i id b c c' hp hc))]
        exact h1
  · exact C.keep k D w w' M.hist (fun b hb => st.block b (hD b hb).1 (hD b hb).2) st.size st.os st.tape st.output
theorem Mem.push {C : Cx} {k : Nat} {σ : List AO} {w w' : World} {ι ι' : Pl} {vis D : Nat → Prop} (M : Mem C k σ w ι vis D) (o' : AO)
    (st : Step w w' none) (hother : ∀ j, j < σ.length → ι' j = ι j) (hsame : ∀ j, σ.length < j → ι' j = none) (hnew : ∀ b c, ι' σ.length = some (b, c) → w.heap.size ≤ b ∧ b < w'.heap.size)
    (hr : RepO C.yl ι' (σ ++ [o']) (hp vis w') w' o' (ι' σ.length)) : Mem C k (σ ++ [o']) w' ι' vis D ∧ Goes ι σ ι' (σ ++ [o']) := by
  have hle : (hp vis w).le (hp vis w') := hp_step st fun b hb => ⟨M.visLt b hb, by simp⟩
  have hrl : ∀ id, id < σ.length → rowLen (σ ++ [o']) id = rowLen σ id := fun id hid => by unfold rowLen; rw [List.getElem?_append_left hid]
  have g : Goes ι σ ι' (σ ++ [o']) := ⟨by simp, fun id hid hl => ⟨by rw [hrl id hid]; exact hl, hother id hid⟩, fun id n hid hl => ⟨n, by rw [hrl id hid]; exact hl, Nat.le_refl _, fun _ => hother id hid⟩⟩
  have hlt : ∀ j b c, ι' j = some (b, c) → j < σ.length ∨ j = σ.length := fun j b c hj => by
    rcases Nat.lt_trichotomy j σ.length with h | h | h
    · exact .inl h
    · exact .inr h
    · rw [hsame j h] at hj; cases hj
  refine ⟨⟨M.glob.mono hle, ?_, ?_, ?_, ?_, M.visD, ?_, ?_⟩, g⟩
  · intro i j b c c' hi hj
    rcases hlt i b c hi with ei | ei <;> rcases hlt j b c' hj with ej | ej
    · rw [hother i ei] at hi
      rw [hother j ej] at hj
      exact M.inj _ _ b c c' hi hj
    · subst ej
      rw [hother i ei] at hi
      exact absurd (M.own i b c hi).2.1 (by have := (hnew b c' hj).1; omega)
    · subst ei
      rw [hother j ej] at hj
      exact absurd (M.own j b c' hj).2.1 (by have := (hnew b c hi).1; omega)
    · rw [ei, ej]
  · intro i b c hi
    rw [List.length_append, List.length_singleton]
    rcases hlt i b c hi with ei | ei
    · rw [hother i ei] at hi
      obtain ⟨h3, h4, h5⟩ := M.own _ b c hi
      exact ⟨by omega, Nat.lt_of_lt_of_le h4 st.size, h5⟩
    · subst ei
      obtain ⟨h1, h2⟩ := hnew b c hi
      exact ⟨by omega, h2, fun hb => absurd (M.visLt b hb) (by omega), fun hb => absurd (M.DLt b hb) (by omega)⟩
  · exact fun b hb => Nat.lt_of_lt_of_le (M.visLt b hb) st.size
  · exact fun b hb => Nat.lt_of_lt_of_le (M.DLt b hb) st.size
  · intro i o hi
    by_cases ei : i < σ.length
    · rw [List.getElem?_append_left ei] at hi
      have ho := M.objs i o hi
      rw [hother i ei]
      cases hp : ι i with
      | none => rw [hp] at ho; exact ho
      | some bc =>
        obtain ⟨b, c⟩ := bc
        rw [hp] at ho
        obtain ⟨ob, h1, h2⟩ := ho
        exact ⟨ob, by rw [st.block b (M.own i b c hp).2.1 (by simp)]; exact h1, h2.mono g hle⟩
    · have : i = σ.length := by
        have := (List.getElem?_eq_some_iff.1 hi).1
        simp at this
        omega
      subst this
      simp at hi
      subst hi
      exact hr
  · exact C.keep k D w w' M.hist (fun b hb => st.block b (M.DLt b hb) (by simp)) st.size st.os st.tape st.output
theorem Mem.step {C : Cx} {k : Nat} {σ : List AO} {w w' : World} {ι : Pl} {vis D : Nat → Prop} (M : Mem C k σ w ι vis D) (st : Step w w' none) : Mem C k σ w' ι vis D ∧ (hp vis w).le (hp vis w') := by
  have hle : (hp vis w).le (hp vis w') := hp_step st fun b hb => ⟨M.visLt b hb, by simp⟩
  refine ⟨⟨M.glob.mono hle, M.inj, fun i b c hi => ?_, fun b hb => Nat.lt_of_lt_of_le (M.visLt b hb) st.size, fun b hb => Nat.lt_of_lt_of_le (M.DLt b hb) st.size, M.visD, fun i o hi => ?_,
    C.keep k D w w' M.hist (fun b hb => st.block b (M.DLt b hb) (by simp)) st.size st.os st.tape st.output⟩, hle⟩
  · obtain ⟨h1, h2, h3⟩ := M.own i b c hi
    exact ⟨h1, Nat.lt_of_lt_of_le h2 st.size, h3⟩
  · have ho := M.objs i o hi
    cases hp : ι i with
    | none => rw [hp] at ho; exact ho
    | some bc =>
      obtain ⟨b, c⟩ := bc
      rw [hp] at ho
      obtain ⟨ob, h1, h2⟩ := ho
      exact ⟨ob, by rw [st.block b (M.own i b c hp).2.1 (by simp)]; exact h1, h2.mono (Goes.refl _ _) hle⟩
structure Up (ι : Pl) (σ : List AO) (vis : Nat → Prop) (w : World) (ι' : Pl) (σ' : List AO) (vis' : Nat → Prop) (w' : World) : Prop where
  goes : Goes ι σ ι' σ'
  le : (hp vis w).le (hp vis' w')
  size : w.heap.size ≤ w'.heap.size
  own : ∀ i b c, ι' i = some (b, c) → (∃ j c', ι j = some (b, c')) ∨ w.heap.size ≤ b
  vis : ∀ b, vis' b → vis b ∨ w.heap.size ≤ b ∨ ∃ j c, ι j = some (b, c)
theorem Up.refl (ι : Pl) (σ : List AO) (vis : Nat → Prop) (w : World) : Up ι σ vis w ι σ vis w :=
  ⟨Goes.refl _ _, Hp.le_refl _, Nat.le_refl _, fun i _ c h => .inl ⟨i, c, h⟩, fun _ h => .inl h⟩
theorem Up.trans {ι ι' ι'' : Pl} {σ σ' σ'' : List AO} {vis vis' vis'' : Nat → Prop} {w w' w'' : World} (a : Up ι σ vis w ι' σ' vis' w') (b : Up ι' σ' vis' w' ι'' σ'' vis'' w'') : Up ι σ vis w ι'' σ'' vis'' w'' :=
  ⟨a.goes.trans b.goes, Hp.le_trans a.le b.le, Nat.le_trans a.size b.size, fun i x c h => by
    rcases b.own i x c h with ⟨j, c', h'⟩ | h'
    · exact a.own j x c' h'
    · exact .inr (Nat.le_trans a.size h'), fun x h => by
    rcases b.vis x h with h' | h' | ⟨j, c, h'⟩
    · exact a.vis x h'
    · exact .inr (.inl (Nat.le_trans a.size h'))
    · rcases a.own j x c h' with ⟨j', c', h''⟩ | h''
      · exact .inr (.inr ⟨j', c', h''⟩)
      · exact .inr (.inl h'')⟩
theorem Up.of {ι ι' : Pl} {σ σ' : List AO} {vis : Nat → Prop} {w w' : World} (g : Goes ι σ ι' σ') (le : (hp vis w).le (hp vis w')) (sz : w.heap.size ≤ w'.heap.size)
    (own : ∀ i b c, ι' i = some (b, c) → (∃ j c', ι j = some (b, c')) ∨ w.heap.size ≤ b) : Up ι σ vis w ι' σ' vis w' := ⟨g, le, sz, own, fun _ h => .inl h⟩
inductive Df where
  | call (f : Nat) (args : List E)
  | mark
  deriving Inhabited
def lk : List (Nat × E) → Nat → E
  | [], _ => .undef
  | (j, e) :: r, i => if i = j then e else lk r i
structure St where
  env : List (Nat × E)
  σ : List AO
  df : List Df := []
  k : Nat := 0
  deriving Inhabited
def RepD (sz0 yl : Nat) (ι : Pl) (σ : List AO) (h : Hp) : Df → Deferred → Prop
  | .call f args, d => ∃ vs cs : List Value, d = { target := .fn (.func f) cs.toArray, args := vs.toArray } ∧ RepEs yl ι σ h args (vs ++ cs)
  | .mark, d => ∃ b, d = { target := .collected b, args := #[] } ∧ sz0 ≤ b ∧ h b (.deferred (some []))
def RepDs (sz0 yl : Nat) (ι : Pl) (σ : List AO) (h : Hp) : List Df → List Deferred → Prop
  | [], ds => ds = []
  | d :: ds, l => ∃ d' l', l = d' :: l' ∧ RepD sz0 yl ι σ h d d' ∧ (∀ b, d'.target = .collected b → ∀ e ∈ l', e.target ≠ .collected b) ∧ RepDs sz0 yl ι σ h ds l'
theorem RepD.mono {sz0 yl : Nat} {ι ι' : Pl} {σ σ' : List AO} {h h' : Hp} (g : Goes ι σ ι' σ') (hh : h.le h') {d : Df} {d' : Deferred} (r : RepD sz0 yl ι σ h d d') : RepD sz0 yl ι' σ' h' d d' := by
  cases d with
  | call f args => obtain ⟨vs, cs, e, r⟩ := r; exact ⟨vs, cs, e, r.mono g hh⟩
  | mark => obtain ⟨b, e, h1, h2⟩ := r; exact ⟨b, e, h1, hh _ _ h2⟩
theorem RepDs.mono {sz0 yl : Nat} {ι ι' : Pl} {σ σ' : List AO} {h h' : Hp} (g : Goes ι σ ι' σ') (hh : h.le h') : ∀ (ds : List Df) (l : List Deferred), RepDs sz0 yl ι σ h ds l → RepDs sz0 yl ι' σ' h' ds l
  | [], _, r => r
  | d :: ds, _, r => by
    obtain ⟨d', l', e, r1, r0, r2⟩ := r
    exact ⟨d', l', e, r1.mono g hh, r0, RepDs.mono g hh ds l' r2⟩
structure InvX (C : Cx) (s : St) (a : Act) (w : World) (ι : Pl) (vis D : Nat → Prop) : Prop where
  mem : Mem C (C.k0 + s.k) s.σ w ι vis D
  sz : a.tmps.size = C.nt
  env : ∀ i, RepE C.yl ι s.σ (hp vis w) (lk s.env i) (a.tmps.getD i undef)
  df : RepDs C.sz0 C.yl ι s.σ (hp vis w) s.df a.defers
theorem InvX.go {C : Cx} {s : St} {a : Act} {w w' : World} {ι ι' : Pl} {vis vis' D D' : Nat → Prop} {σ' : List AO} (X : InvX C s a w ι vis D) (M : Mem C (C.k0 + s.k) σ' w' ι' vis' D') (g : Goes ι s.σ ι' σ') (hle : (hp vis w).le (hp vis' w')) :
    InvX C { s with σ := σ' } a w' ι' vis' D' := ⟨M, X.sz, fun i => (X.env i).mono g hle, RepDs.mono g hle _ _ X.df⟩
end Go.Ab
namespace Go.Ab
inductive Opd where
  | tmp (n : Nat)
  | lit (v : Value)
  | fn (f : Nat)
  | tr (x : T)
  deriving Inhabited
def Opd.ev (env : List (Nat × E)) : Opd → E
  | .tmp n => lk env n
  | .lit v => .t (.lit v)
  | .fn f => .t (.fn (.func f) [] [])
  | .tr x => .t x
def allT : List E → Option (List T)
  | [] => some []
  | .t x :: es => (allT es).map (x :: ·)
  | _ :: _ => none
def E.mk (cs : List E) : E := match allT cs with | some ts => .t (.agg ts) | none => .agg cs
def E.mkFn (f : Fn) (fs cs : List E) : E := match allT fs, allT cs with | some a, some b => .t (.fn f a b) | _, _ => .fn f fs cs
def E.mkIface (t : TypeId) : E → E
  | .t x => .t (.iface t x)
  | e => .iface t e
def E.cells? : E → Option (List E)
  | .t (.lit v) => if v.oneCell' then some [.t (.lit v)] else none
  | .t (.agg cs) => some (cs.map .t)
  | .agg cs => some cs
  | .undef => none
  | .tup _ => none
  | .t .hole => none
  | e => some [e]
def T.cells? : T → Option (List T)
  | .lit v => if v.oneCell' then some [.lit v] else none
  | .agg cs => some cs
  | .hole => none
  | x => some [x]
def E.isAgg : E → Bool
  | .t (.agg _) => true
  | .agg _ => true
  | _ => false
def splice {α : Type} (cs : List α) (off : Nat) (vs : List α) : List α := cs.take off ++ vs ++ cs.drop (off + vs.length)
def rd (agg : Bool) (k : Nat) (cs : List E) (off : Nat) : Option E :=
  if agg then (if off + k ≤ cs.length then some (E.mk ((cs.drop off).take k)) else none) else cs[off]?
def rdT (agg : Bool) (k : Nat) (cs : List T) (off : Nat) : Option T :=
  if agg then (if off + k ≤ cs.length then some (.agg ((cs.drop off).take k)) else none) else cs[off]?
def zeroE : Value → E
  | .agg cs => .t (.agg (cs.toList.map .lit))
  | v => .t (.lit v)
def load? (σ : List AO) (agg : Bool) (k : Nat) : E → Option E
  | .ptr id off => match σ[id]? with
    | some (.cells cs) => rd agg k cs off
    | _ => none
  | .elt id n es i off => match σ[id]? with
    | some (.row es' xs) => if xs.length = n ∧ es' = es then ((xs[i]?).bind E.cells?).bind (rd agg k · off) else none
    | _ => none
  | .t (.ptr x off) => (x.cells?.bind (rdT agg k · off)).map .t
  | .vp cs off => rd agg k cs off
  | _ => none
def store? (σ : List AO) (k : Nat) (p v : E) : Option (List AO) :=
  match v.cells? with
  | none => none
  | some vs => if vs.length = k then
    match p with
    | .ptr id off => match σ[id]? with
      | some (.cells cs) => if off + k ≤ cs.length then some (σ.set id (.cells (splice cs off vs))) else none
      | _ => none
    | .elt id n es i off => match σ[id]? with
      | some (.row es' xs) => if xs.length = n ∧ es' = es then
          match xs[i]? with
          | some x => if x.isAgg then
              (match x.cells? with
              | some cs => if off + k ≤ cs.length then some (σ.set id (.row es' (xs.set i (E.mk (splice cs off vs))))) else none
              | none => none)
            else if off = 0 ∧ k = es ∧ !v.isAgg then some (σ.set id (.row es' (xs.set i v))) else none
          | none => none
        else none
      | _ => none
    | _ => none
    else none
section
variable {yl : Nat} {ι : Pl} {σ : List AO} {h : Hp}
theorem RepEs.of_T : ∀ {cs : List E} {ts : List T} {us : List Value}, allT cs = some ts → RepEs yl ι σ h cs us → RepTs h ts us
  | [], ts, us, e, r => by
    simp [allT] at e; subst e; unfold RepEs at r; unfold RepTs; exact r
  | .t x :: cs, ts, us, e, r => by
    simp only [allT, Option.map_eq_some_iff] at e
    obtain ⟨ts', e1, rfl⟩ := e
    unfold RepEs at r
    obtain ⟨u, us', rfl, r1, r2⟩ := r
    unfold RepTs
    unfold RepE at r1
    exact ⟨u, us', rfl, r1, RepEs.of_T e1 r2⟩
  | .undef :: _, _, _, e, _ | .ptr .. :: _, _, _, e, _ | .elt .. :: _, _, _, e, _ | .loc .. :: _, _, _, e, _ | .map .. :: _, _, _, e, _ | .iter .. :: _, _, _, e, _
  | .fn .. :: _, _, _, e, _ | .iface .. :: _, _, _, e, _ | .agg .. :: _, _, _, e, _ | .tup .. :: _, _, _, e, _ | .yld :: _, _, _, e, _ | .vp .. :: _, _, _, e, _ | .sub .. :: _, _, _, e, _ => by simp [allT] at e
theorem RepEs.map_t : ∀ {ts : List T} {us : List Value}, RepTs h ts us → RepEs yl ι σ h (ts.map .t) us
  | [], us, r => by unfold RepTs at r; simp only [List.map_nil]; unfold RepEs; exact r
  | x :: ts, us, r => by
    unfold RepTs at r
    obtain ⟨u, us', rfl, r1, r2⟩ := r
    simp only [List.map_cons]
    unfold RepEs
    exact ⟨u, us', rfl, by unfold RepE; exact r1, RepEs.map_t r2⟩
theorem RepE.mk {cs : List E} {us : List Value} (r : RepEs yl ι σ h cs us) (o : ∀ u ∈ us, One u) : RepE yl ι σ h (E.mk cs) (.agg us.toArray) := by
  unfold E.mk
  split
  · rename_i ts e
    unfold RepE RepT
    exact ⟨us, rfl, r.of_T e, o⟩
  · unfold RepE
    exact ⟨us, rfl, r, o⟩
theorem RepE.mkFn {f : Fn} {fs cs : List E} {us vs : List Value} (r1 : RepEs yl ι σ h fs us) (r2 : RepEs yl ι σ h cs vs) : RepE yl ι σ h (E.mkFn f fs cs) (.func f us.toArray vs.toArray) := by
  unfold E.mkFn
  split
  · rename_i a b e1 e2
    unfold RepE RepT
    exact ⟨us, vs, rfl, r1.of_T e1, r2.of_T e2⟩
  · unfold RepE
    exact ⟨us, vs, rfl, r1, r2⟩
theorem RepE.mkIface {t : TypeId} {e : E} {u : Value} (r : RepE yl ι σ h e u) : RepE yl ι σ h (E.mkIface t e) (.iface t u) := by
  unfold E.mkIface
  split
  · unfold RepE at r
    unfold RepE RepT
    exact ⟨u, rfl, r⟩
  · unfold RepE
    exact ⟨u, rfl, r⟩
theorem RepE.cells {e : E} {cs : List E} {v : Value} (e1 : e.cells? = some cs) (r : RepE yl ι σ h e v) : RepEs yl ι σ h cs v.cells.toList ∧ ∀ u ∈ v.cells.toList, One u := by
  have one : ∀ {e : E} {v : Value}, v.oneCell' = true → RepE yl ι σ h e v → RepEs yl ι σ h [e] v.cells.toList ∧ ∀ u ∈ v.cells.toList, One u := fun {e v} ho r => by
    have : v.cells = #[v] := by cases v <;> first | rfl | simp [Value.oneCell'] at ho
    rw [this]
    refine ⟨by unfold RepEs; exact ⟨v, [], rfl, r, by unfold RepEs; rfl⟩, ?_⟩
    intro u hu
    simp at hu
    subst hu
    exact ho
  cases e with
  | t x =>
    cases x with
    | lit l =>
      simp only [E.cells?] at e1
      split at e1
      · rename_i ho
        cases e1
        have r' := r
        unfold RepE RepT at r'
        subst r'
        exact one ho r
      · cases e1
    | agg ts =>
      simp only [E.cells?] at e1
      cases e1
      unfold RepE RepT at r
      obtain ⟨us, rfl, r, o⟩ := r
      exact ⟨RepEs.map_t (by simpa [Value.cells] using r), by simpa [Value.cells] using o⟩
    | map sh ks xs clk =>
      simp only [E.cells?] at e1
      cases e1
      refine one ?_ r
      unfold RepE RepT at r
      obtain ⟨b, ms, rfl, _⟩ := r
      rfl
    | slice es xs =>
      simp only [E.cells?] at e1
      cases e1
      refine one ?_ r
      unfold RepE RepT at r
      obtain ⟨a, n, c, rfl, _⟩ := r
      rfl
    | ptr x off =>
      simp only [E.cells?] at e1
      cases e1
      refine one ?_ r
      unfold RepE RepT at r
      obtain ⟨a, n, c, rfl, _⟩ := r
      rfl
    | fn f fs cs =>
      simp only [E.cells?] at e1
      cases e1
      refine one ?_ r
      unfold RepE RepT at r
      obtain ⟨a, n, rfl, _⟩ := r
      rfl
    | iface t x =>
      simp only [E.cells?] at e1
      cases e1
      refine one ?_ r
      unfold RepE RepT at r
      obtain ⟨a, rfl, _⟩ := r
      rfl
    | hole => simp [E.cells?] at e1
  | undef => simp [E.cells?] at e1
  | tup cs => simp [E.cells?] at e1
  | agg es =>
    simp only [E.cells?] at e1
    cases e1
    unfold RepE at r
    obtain ⟨us, rfl, r, o⟩ := r
    exact ⟨by simpa [Value.cells] using r, by simpa [Value.cells] using o⟩
  | ptr id off => simp only [E.cells?] at e1; cases e1; refine one ?_ r; unfold RepE at r; obtain ⟨_, _, b, c, _, rfl⟩ := r; rfl
  | map id => simp only [E.cells?] at e1; cases e1; refine one ?_ r; unfold RepE at r; obtain ⟨_, _, b, c, _, rfl⟩ := r; rfl
  | iter id => simp only [E.cells?] at e1; cases e1; refine one ?_ r; unfold RepE at r; obtain ⟨_, _, b, c, _, rfl⟩ := r; rfl
  | fn f fs cs => simp only [E.cells?] at e1; cases e1; refine one ?_ r; unfold RepE at r; obtain ⟨_, _, rfl, _⟩ := r; rfl
  | iface t x => simp only [E.cells?] at e1; cases e1; refine one ?_ r; unfold RepE at r; obtain ⟨_, rfl, _⟩ := r; rfl
  | yld => simp only [E.cells?] at e1; cases e1; refine one ?_ r; unfold RepE at r; subst r; rfl
  | vp cs off => simp only [E.cells?] at e1; cases e1; refine one ?_ r; unfold RepE at r; obtain ⟨_, _, rfl, _⟩ := r; rfl
  | sub id n es lo len => simp only [E.cells?] at e1; cases e1; refine one ?_ r; unfold RepE at r; exact r.2.2.2.1
  | elt id n es i off => simp only [E.cells?] at e1; cases e1; refine one ?_ r; unfold RepE at r; exact r.2.2.2.1
  | loc id n => simp only [E.cells?] at e1; cases e1; refine one ?_ r; unfold RepE at r; exact r.2.2.2.1
end
end Go.Ab
