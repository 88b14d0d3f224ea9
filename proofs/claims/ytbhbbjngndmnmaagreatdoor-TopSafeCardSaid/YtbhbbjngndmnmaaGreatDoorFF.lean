/- Proved here: laws that the statements need (AbU, AbV). No conditions but those that each law states. -/
import Derived.Test.YtbhbbjngndmnmaaGreatDoorFE
import Derived.Maps.RangeRun
import Derived.RangeFuncRecord
import Derived.Carry
set_option linter.unusedSimpArgs false
set_option linter.unusedVariables false
namespace Go.Ab
open Go.ChangeMaps (setBlock)
theorem RepMs_iff {h : Hp} {sh : Sh} : ∀ {ks : List (Nat × List Int)} {xs : List T} {ms : List MapEntry}, RepMs h sh ks xs ms ↔ ks.length = xs.length ∧ ms.length = xs.length ∧
    ∀ (i : Nat) x b m, xs[i]? = some x → ks[i]? = some b → ms[i]? = some m → m.born = b.1 ∧ m.key = keyVal sh b.2 ∧ b.2.length = (shKinds sh).length ∧ RepT h x m.val
  | ks, [], ms => by
    unfold RepMs
    constructor
    · rintro ⟨rfl, rfl⟩; simp
    · rintro ⟨h1, h2, _⟩; exact ⟨List.eq_nil_of_length_eq_zero (by simpa using h1), List.eq_nil_of_length_eq_zero (by simpa using h2)⟩
  | ks, x :: xs, ms => by
    unfold RepMs
    constructor
    · rintro ⟨born, key, ks', v, ms', rfl, rfl, hl, r1, r2⟩
      obtain ⟨h1, h2, h3⟩ := RepMs_iff.1 r2
      refine ⟨by simp [h1], by simp [h2], fun i y b m hy hb hm => ?_⟩
      cases i with
      | zero => simp at hy hb hm; subst hy hb hm; exact ⟨rfl, rfl, hl, r1⟩
      | succ i => exact h3 i y b m (by simpa using hy) (by simpa using hb) (by simpa using hm)
    · rintro ⟨h1, h2, h3⟩
      cases ks with
      | nil => simp at h1
      | cons b ks =>
        cases ms with
        | nil => simp at h2
        | cons m ms =>
          obtain ⟨q1, q2, q3, q4⟩ := h3 0 x b m rfl rfl rfl
          exact ⟨b.1, b.2, ks, m.val, ms, rfl, by cases m; simp_all, q3, q4, RepMs_iff.2 ⟨by simpa using h1, by simpa using h2, fun i y b m hy hb hm => h3 (i + 1) y b m (by simpa using hy) (by simpa using hb) (by simpa using hm)⟩⟩
section
variable {P : Program} {w : World} {kt : TypeId} {sh : Sh}
theorem mapSh_spec (h : mapSh P kt = some sh) : kcells P 20 kt = some (shKinds sh) ∧ ∀ key : List Int, key.length = (shKinds sh).length → keyVal sh key = kv P kt (kc (shKinds sh) key) := by
  unfold mapSh at h
  split at h
  · rename_i ks hk
    split at h
    · rename_i hw; cases h; exact ⟨hk, fun key _ => by simp [keyVal, kv, hw, shKinds]⟩
    · rename_i hw
      split at h
      · cases h
        refine ⟨hk, fun key hl => ?_⟩
        match key, hl with
        | [n], _ => simp [keyVal, kv, hw, shKinds, kc]
      · cases h
  · cases h
theorem kEq_self : ∀ (ks : Kinds) (a b : List Int), a.length = ks.length → b.length = ks.length → kEq ks a b = true → kc ks a = kc ks b
  | [], _, _, _, _, _ => by simp [kc]
  | k :: ks, a :: as, b :: bs, h1, h2, h => by
    simp only [kEq, Bool.and_eq_true] at h
    simp only [kc, kEq_self ks as bs (by simpa using h1) (by simpa using h2) h.2, List.cons.injEq, and_true]
    cases k with
    | some k => have := h.1; simp only [cellEq, beq_iff_eq] at this; rw [this]
    | none => have := h.1; simp only [cellEq, beq_iff_eq] at this; simp only [keyCell, this]
  | _ :: _, [], _, h, _, _ => by simp at h
  | _ :: _, _ :: _, [], _, h, _ => by simp at h
theorem keyVal_congr {a b : List Int} (h1 : a.length = (shKinds sh).length) (h2 : b.length = (shKinds sh).length) (h : kEq (shKinds sh) a b = true) : keyVal sh a = keyVal sh b := by
  have := kEq_self _ a b h1 h2 h
  obtain ⟨s1, s2⟩ := sh
  cases s1 with
  | some ks => simp only [keyVal, shKinds] at *; rw [this]
  | none =>
    simp only [shKinds] at *
    match a, b, h1, h2 with
    | [x], [y], _, _ => simpa [keyVal, kc] using this
theorem sameBits_cell (k : Option IntKind) (n : Int) (m : Nat) : Instr.sameBits m (keyCell k n) (keyCell k n) = true := by
  cases k <;> cases m <;> simp [keyCell, Instr.sameBits]
theorem sameBits_key (sh : Sh) (key : List Int) (n : Nat) : Instr.sameBits (n + 1) (keyVal sh key) (keyVal sh key) = true := by
  obtain ⟨s1, s2⟩ := sh
  cases s1 with
  | some ks =>
    simp only [keyVal, Instr.sameBits, beq_self_eq_true, Bool.true_and, List.all_eq_true]
    intro p hp
    have key2 : ∀ (l : List Value), (∀ v ∈ l, ∃ k n, v = keyCell k n) → ∀ p ∈ l.zip l, Instr.sameBits n p.1 p.2 = true := by
      intro l
      induction l with
      | nil => intro _ p hp; simp at hp
      | cons v l ih =>
        intro hv p hp
        simp only [List.zip_cons_cons, List.mem_cons] at hp
        rcases hp with rfl | hp
        · obtain ⟨k, n', rfl⟩ := hv v (by simp); exact sameBits_cell k n' n
        · exact ih (fun u hu => hv u (by simp [hu])) p hp
    have hkc : ∀ (ks : Kinds) (ns : List Int), ∀ v ∈ kc ks ns, ∃ k n, v = keyCell k n := by
      intro ks
      induction ks with
      | nil => intro ns v hv; simp [kc] at hv
      | cons k ks ih =>
        intro ns v hv
        cases ns with
        | nil => simp [kc] at hv
        | cons n ns =>
          simp only [kc, List.mem_cons] at hv
          rcases hv with rfl | hv
          · exact ⟨k, n, rfl⟩
          · exact ih ns v hv
    exact key2 _ (hkc ks key) p hp
  | none => exact sameBits_cell s2 _ (n + 1)
theorem run_stays (sh : Sh) (key : List Int) : (Instr.keyThatStays (keyVal sh key) (keyVal sh key)).run P w = .ok (keyVal sh key) w := by
  have := sameBits_key sh key 9999
  simp [Instr.keyThatStays, this]
theorem checkKey_kv (em : Bool) (D : Nat) : ∀ (d : Nat) (t : TypeId) (ks : Kinds), kcells P d t = some ks → ∀ (ns : List Int), ns.length = ks.length → (Instr.checkKey em (D + d) t (kv P t (kc ks ns))).run P w = .ok () w
  | 0, t, ks, h, _, _ => by simp [kcells] at h
  | d + 1, t, ks, h, ns, h1 => by
    simp only [kcells] at h
    rw [show D + (d + 1) = (D + d) + 1 from rfl, Instr.checkKey]
    split at h
    · rename_i k hu
      cases h
      match ns, h1 with
      | [a], _ =>
        have e : kv P t (kc [some k] [a]) = .int k a := by simp [kv, isWide, hu, kc, keyCell]
        rw [e]
        simp [Sem.run_bind, run_underlying hu]
    · rename_i hu
      cases h
      match ns, h1 with
      | [a], _ =>
        have e : kv P t (kc [none] [a]) = .bool (a != 0) := by simp [kv, isWide, hu, kc, keyCell]
        rw [e]
        simp [Sem.run_bind, run_underlying hu]
    · rename_i fs hu
      split at h
      · cases h
      have hw : isWide P t = true := by simp [isWide, hu]
      simp only [kv, hw, if_true, Sem.run_bind, run_underlying hu, Result.andThen_ok]
      rw [← Array.forIn_toList]
      have key : ∀ (fs : List Field) (off : Nat) (ks : Kinds), kfields P (kcells P d) fs off = some ks → ∀ (pre : List Value) (ns : List Int), pre.length = off → ns.length = ks.length →
          (forIn (m := Sem) fs PUnit.unit fun f _ => do
            if f.name ≠ "_" then Instr.checkKey em (D + d) f.type (← part f.type (pre ++ kc ks ns).toArray f.offset)
            pure (.yield PUnit.unit)).run P w = .ok PUnit.unit w := by
        intro fs
        induction fs with
        | nil => intro _ _ _ _ _ _ _; simp
        | cons f fs ih =>
          intro off ks h pre ns hp h1
          simp only [kfields] at h
          split at h
          rotate_left
          · cases h
          rename_i hcond
          split at h
          · rename_i kf hkf
            split at h
            · rename_i hlen
              split at h
              · rename_i l hl
                cases h
                obtain ⟨hu, hs⟩ := kcells_under hkf
                obtain ⟨dd, hdd⟩ := hu
                obtain ⟨i, hi⟩ := info_of_underlying hdd
                simp only [List.length_append] at h1
                have e1 : ns = ns.take kf.length ++ ns.drop kf.length := (List.take_append_drop _ _).symm
                have l1 : (ns.take kf.length).length = kf.length := by simp; omega
                have l3 : (ns.drop kf.length).length = l.length := by simp; omega
                generalize ns.take kf.length = na at *
                generalize ns.drop kf.length = nb at *
                subst e1
                have p1 := run_part_kv w (pre := pre) (cs := kc kf na) (post := kc l nb) hi (by rw [kc_length l1, hlen]) (fun hw e => by have := kc_length l1; rw [e] at this; exact hs hw (List.eq_nil_of_length_eq_zero (by simpa using this.symm))) ⟨dd, hdd⟩
                rw [hp] at p1
                rw [kc_append l1]
                have hc1 : f.name ≠ "_" := hcond.1
                have p2 := checkKey_kv em D d f.type kf hkf na l1
                have := ih (off + kf.length) l hl (pre ++ kc kf na) nb (by rw [List.length_append, kc_length l1, hp]) l3
                rw [List.append_assoc] at this
                simp only [List.forIn_cons, if_pos hc1, hcond.2, Sem.run_bind, p1, p2, Result.andThen_ok, Sem.run_pure]
                simpa using this
              · cases h
            · cases h
          · cases h
      have := key fs.toList 0 ks h [] ns rfl h1
      simp at this ⊢
      rw [this]
      rfl
    · rename_i n e hu
      split at h
      · rename_i k hk
        split at h
        · rename_i hlen
          cases h
          have hw : isWide P t = true := by simp [isWide, hu]
          obtain ⟨⟨dd, hdd⟩, hs⟩ := kcells_under hk
          obtain ⟨i, hi⟩ := info_of_underlying hdd
          simp only [kv, hw, if_true, Sem.run_bind, run_underlying hu, Result.andThen_ok]
          simp only [Std.Legacy.Range.forIn_eq_forIn_range', Std.Legacy.Range.size, Nat.sub_zero, Nat.add_one_sub_one, Nat.div_one]
          have key : ∀ (n j : Nat) (pre : List Value) (ns : List Int), pre.length = j * k.length → ns.length = n * k.length →
              (forIn (m := Sem) (List.range' j n) PUnit.unit fun i _ => do
                Instr.checkKey em (D + d) e (← part e (pre ++ kc (List.replicate n k).flatten ns).toArray (i * (← sizeOf e)))
                pure (.yield PUnit.unit)).run P w = .ok PUnit.unit w := by
            intro n
            induction n with
            | zero => intro _ _ _ _ _; simp
            | succ n ih =>
              intro j pre ns hp h1
              have e1 : ns = ns.take k.length ++ ns.drop k.length := (List.take_append_drop _ _).symm
              have h1' : ns.length = n * k.length + k.length := by rw [h1, Nat.succ_mul]
              have l1 : (ns.take k.length).length = k.length := by simp; omega
              have l3 : (ns.drop k.length).length = n * k.length := by simp; omega
              generalize ns.take k.length = na at *
              generalize ns.drop k.length = nb at *
              subst e1
              have p1 := run_part_kv w (pre := pre) (cs := kc k na) (post := kc (List.replicate n k).flatten nb) hi (by rw [kc_length l1, hlen]) (fun hw e => by have := kc_length l1; rw [e] at this; exact hs hw (List.eq_nil_of_length_eq_zero (by simpa using this.symm))) ⟨dd, hdd⟩
              rw [hp, hlen] at p1
              have p2 := checkKey_kv em D d e k hk na l1
              have := ih (j + 1) (pre ++ kc k na) nb (by rw [List.length_append, kc_length l1, hp, Nat.succ_mul]) l3
              rw [List.append_assoc] at this
              rw [List.replicate_succ, List.flatten_cons, kc_append l1, List.range'_succ]
              simp only [List.forIn_cons, Sem.run_bind, run_sizeOf w hi, p1, p2, Result.andThen_ok, Sem.run_pure]
              simpa using this
          have hl : (List.replicate n k).flatten.length = n * k.length := by simp
          have := key n 0 [] ns (by simp) (by rw [h1, hl])
          simp at this ⊢
          rw [this]
          rfl
        · cases h
      · cases h
    · cases h
theorem run_checkKeyV (hk : mapSh P kt = some sh) (em : Bool) {key : List Int} (hl : key.length = (shKinds sh).length) : (Instr.checkKey em 10000 kt (keyVal sh key)).run P w = .ok () w := by
  obtain ⟨h1, h2⟩ := mapSh_spec hk
  rw [h2 key hl]
  exact checkKey_kv em 9980 20 kt _ h1 key hl
theorem run_equalV (hk : mapSh P kt = some sh) {a b : List Int} (h1 : a.length = (shKinds sh).length) (h2 : b.length = (shKinds sh).length) : (Op.equal kt (keyVal sh a) (keyVal sh b)).run P w = .ok (kEq (shKinds sh) a b) w := by
  obtain ⟨q1, q2⟩ := mapSh_spec hk
  rw [q2 a h1, q2 b h2]
  exact equalIn_kv w 9980 20 kt _ q1 a b h1 h2
theorem run_findAskingV (hk : mapSh P kt = some sh) {key : List Int} (hl : key.length = (shKinds sh).length) {h : Hp} : ∀ (ks : List (Nat × List Int)) (xs : List T) (ms : List MapEntry) (j : Nat), RepMs h sh ks xs ms →
    (Instr.findAsking kt (keyVal sh key) ms j).run P w = .ok ((kfind sh ks key).bind fun i => (ms[i]?).map fun e => (j + i, e.val)) w
  | ks, [], ms, j, r => by
    unfold RepMs at r
    obtain ⟨rfl, rfl⟩ := r
    simp [Instr.findAsking, kfind]
  | ks, x :: xs, ms, j, r => by
    unfold RepMs at r
    obtain ⟨born, key', ks', v, ms', rfl, rfl, hl', r1, r2⟩ := r
    have ih := run_findAskingV hk hl ks' xs ms' (j + 1) r2
    simp only [Instr.findAsking, Sem.run_bind, run_equalV hk hl hl', Result.andThen_ok]
    unfold kfind at ih ⊢
    rw [List.findIdx?_cons]
    cases hq : kEq (shKinds sh) key key' with
    | true => simp
    | false =>
      simp only [Bool.false_eq_true, if_false, ih]
      congr 1
      cases hf : List.findIdx? (fun e => kEq (shKinds sh) key e.2) ks' with
      | none => simp
      | some i => simp; cases ms'[i]? <;> simp; omega
def descOf : Option IntKind → TypeDesc
  | some q => .int q
  | none => .bool
theorem run_findNowV {k : Option IntKind} (hu : P.underlying kt = some (descOf k)) {n : Int} {h : Hp} : ∀ (ks : List (Nat × List Int)) (xs : List T) (ms : List MapEntry) (j : Nat), RepMs h (none, k) ks xs ms →
    Instr.findNow (descOf k) (keyVal (none, k) [n]) ms j = some ((kfind (none, k) ks [n]).bind fun i => (ms[i]?).map fun e => (j + i, e.val))
  | ks, [], ms, j, r => by
    unfold RepMs at r
    obtain ⟨rfl, rfl⟩ := r
    simp [Instr.findNow, kfind]
  | ks, x :: xs, ms, j, r => by
    unfold RepMs at r
    obtain ⟨born, key', ks', v, ms', rfl, rfl, hl', r1, r2⟩ := r
    have ih := run_findNowV hu ks' xs ms' (j + 1) r2 (n := n)
    match key', hl' with
    | [m], _ =>
      have hs : Instr.sameNow (descOf k) (keyVal (none, k) [n]) (keyVal (none, k) [m]) = some (kEq [k] [n] [m]) := by
        cases k <;> simp [descOf, Instr.sameNow, keyVal, keyCell, kEq, cellEq]
      have hstep : Instr.findNow (descOf k) (keyVal (none, k) [n]) ({ key := keyVal (none, k) [m], val := v, born := born } :: ms') j = if kEq [k] [n] [m] = true then some (some (j, v)) else Instr.findNow (descOf k) (keyVal (none, k) [n]) ms' (j + 1) := by
        simp only [Instr.findNow, hs]
        cases kEq [k] [n] [m] <;> simp
      rw [hstep]
      unfold kfind at ih ⊢
      rw [List.findIdx?_cons]
      simp only [shKinds] at ih ⊢
      by_cases hq : kEq [k] [n] [m] = true
      · simp [hq]
      · simp only [hq, ih]
        congr 1
        cases hf : List.findIdx? (fun e => kEq [k] [n] e.2) ks' with
        | none => simp
        | some i => simp; cases ms'[i]? <;> simp; omega
theorem run_findKeyV (hk : mapSh P kt = some sh) {key : List Int} (hl : key.length = (shKinds sh).length) {h : Hp} {ks : List (Nat × List Int)} {xs : List T} {ms : List MapEntry} (r : RepMs h sh ks xs ms) :
    (Instr.findKey kt (keyVal sh key) ms).run P w = .ok ((kfind sh ks key).bind fun i => (ms[i]?).map fun e => (i, e.val)) w := by
  have h0 := run_findAskingV (w := w) hk hl ks xs ms 0 r
  obtain ⟨q1, q2⟩ := mapSh_spec hk
  simp only [Nat.zero_add] at h0
  cases hw : isWide P kt with
  | true =>
    rw [run_findKey_eq w (by unfold isWide at hw; split at hw <;> simp_all) _ _]
    exact h0
  | false =>
    obtain ⟨s1, s2⟩ := sh
    have hs1 : s1 = none := by
      unfold mapSh at hk
      rw [q1] at hk
      simp only [hw] at hk
      simp only [Bool.false_eq_true, if_false] at hk
      split at hk
      · cases hk; rfl
      · cases hk
    subst hs1
    have hu : P.underlying kt = some (descOf s2) := by
      simp only [shKinds, kcells] at q1
      split at q1
      · rename_i k hu; cases q1; exact hu
      · rename_i hu; cases q1; exact hu
      · rename_i fs hu; simp [isWide, hu] at hw
      · rename_i n e hu; simp [isWide, hu] at hw
      · cases q1
    match key, hl with
    | [n], _ =>
      have := run_findNowV hu ks xs ms 0 r (n := n)
      simp only [Nat.zero_add] at this
      simp only [Instr.findKey, Sem.run_bind, run_underlying hu, Result.andThen_ok, this, Sem.run_pure]
end
end Go.Ab
namespace Go.Ab
open Go.ChangeMaps (setBlock)
section
variable {C : Cx} {s : St} {a : Act} {w : World} {ι : Pl} {vis D : Nat → Prop}
theorem mapOf_ok (X : InvX C s a w ι vis D) {e : E} {v : Value} {sh : Sh} {ks : List (Nat × List Int)} {xs : List T} {clk : Nat} (h : mapOf? s.σ e = some (sh, ks, xs, clk)) (r : RepE C.yl ι s.σ (hp vis w) e v) :
    ∃ b, ∃ ms : List MapEntry, v = .map (some b) ∧ w.heap[b]? = some (.map ms.toArray clk) ∧ RepMs (hp vis w) sh ks xs ms := by
  unfold mapOf? at h
  split at h
  · rename_i id
    split at h
    · rename_i ho
      cases h
      unfold RepE at r
      obtain ⟨_, _, b, c, hi, rfl⟩ := r
      have hob := X.mem.objs id _ ho
      rw [hi] at hob
      obtain ⟨ob, hh, ms, rfl, r⟩ := hob
      exact ⟨b, ms, rfl, hh, r⟩
    · cases h
  · cases h
    unfold RepE RepT at r
    obtain ⟨b, ms, rfl, hh, r⟩ := r
    exact ⟨b, ms, rfl, hh.2, r⟩
  · cases h
theorem cellKey_ok {yl : Nat} {σ : List AO} {h : Hp} {k : Option IntKind} {e : E} {v : Value} {n : Int} (hk : cellKey k e = some n) (r : RepE yl ι σ h e v) : v = keyCell k n := by
  unfold cellKey at hk
  split at hk
  · split at hk
    · rename_i e; cases hk; subst e; unfold RepE RepT at r; exact r
    · cases hk
  · rename_i b
    cases hk
    unfold RepE RepT at r
    subst r
    cases b <;> simp [keyCell]
  · cases hk
theorem cellKeys_ok {yl : Nat} {σ : List AO} {h : Hp} : ∀ {ks : Kinds} {cs : List E} {vs : List Value} {ns : List Int}, cellKeys ks cs = some ns → RepEs yl ι σ h cs vs → vs = kc ks ns ∧ ns.length = ks.length
  | [], [], vs, ns, hk, r => by
    simp only [cellKeys] at hk; cases hk
    unfold RepEs at r; subst r
    exact ⟨rfl, rfl⟩
  | k :: ks, c :: cs, vs, ns, hk, r => by
    simp only [cellKeys] at hk
    split at hk
    · rename_i n ns' h1 h2
      cases hk
      unfold RepEs at r
      obtain ⟨u, us, rfl, r1, r2⟩ := r
      obtain ⟨e, hl⟩ := cellKeys_ok h2 r2
      exact ⟨by rw [kc, cellKey_ok h1 r1, e], by simp [hl]⟩
    · cases hk
  | [], _ :: _, _, _, hk, _ => by simp [cellKeys] at hk
  | _ :: _, [], _, _, hk, _ => by simp [cellKeys] at hk
theorem toKey_ok {yl : Nat} {σ : List AO} {h : Hp} {sh : Sh} {e : E} {v : Value} {key : List Int} (hk : toKey sh e = some key) (r : RepE yl ι σ h e v) : v = keyVal sh key ∧ key.length = (shKinds sh).length := by
  unfold toKey at hk
  split at hk
  · unfold RepE RepT at r
    obtain ⟨us, rfl, r, _⟩ := r
    obtain ⟨e, hl⟩ := cellKeys_ok hk (RepEs.map_t (yl := yl) (ι := ι) (σ := σ) r)
    exact ⟨by rw [e]; rfl, hl⟩
  · unfold RepE at r
    obtain ⟨us, rfl, r, _⟩ := r
    obtain ⟨e, hl⟩ := cellKeys_ok hk r
    exact ⟨by rw [e]; rfl, hl⟩
  · cases hk
  · split at hk
    · rename_i n hn
      cases hk
      exact ⟨by rw [cellKey_ok hn r]; rfl, rfl⟩
    · cases hk
theorem zV_run {P : Program} {t : TypeId} {z : Value} (h : zV P t = some z) (w : World) : (zeroValue t).run P w = .ok z w ∧ ∀ u ∈ z.cells.toList, One u := by
  unfold zV at h
  split at h
  · rename_i i hi
    split at h
    · rename_i z' hz
      split at h
      · rename_i hc
        cases h
        simp only [Bool.and_eq_true, List.all_eq_true] at hc
        exact ⟨by simp [zeroValue, typeInfo, hi, hz], hc.1⟩
      · cases h
    · cases h
  · cases h
theorem zeroT_rep {h : Hp} {z : Value} (o1 : ∀ u ∈ z.cells.toList, One u) : RepT h (zeroT z) z := by
  unfold zeroT
  split
  · rename_i cs
    unfold RepT
    refine ⟨cs.toList, by simp, ?_, by simpa [Value.cells] using o1⟩
    refine RepTs_iff.2 ⟨by simp, fun i x v hx hv => ?_⟩
    rw [List.getElem?_map, hv] at hx
    cases hx
    unfold RepT; rfl
  · unfold RepT; rfl
theorem InvX.setMap (X : InvX C s a w ι vis D) {id : Nat} {b c : Nat} {o : AO} {arr : Array MapEntry} {clk : Nat} {sh : Sh} {ks' : List (Nat × List Int)} {xs' : List T} {ms' : List MapEntry} {clk' : Nat}
    (ho : s.σ[id]? = some o) (hl : o.len? = none) (hi : ι id = some (b, c)) (hh : w.heap[b]? = some (.map arr clk)) (hr : RepMs (hp vis w) sh ks' xs' ms') :
    InvX C { s with σ := s.σ.set id (.map sh ks' xs' clk') } a (w.putObj b (.map ms'.toArray clk')) ι vis D ∧ Up ι s.σ vis w ι (s.σ.set id (.map sh ks' xs' clk')) vis (w.putObj b (.map ms'.toArray clk')) := by
  have hid : id < s.σ.length := (List.getElem?_eq_some_iff.1 ho).1
  have g : Goes ι s.σ ι (s.σ.set id (.map sh ks' xs' clk')) := Goes.set ho (by rw [hl]; rfl)
  have hlt : b < w.heap.size := (X.mem.own id b c hi).2.1
  have st : Step w (w.putObj b (.map ms'.toArray clk')) (some b) := ⟨by simp, rfl, rfl, rfl, fun k _ hk => World.putObj_heap_other fun e => hk (by rw [e])⟩
  have hle := hp_step st (vis := vis) fun b' hb => ⟨X.mem.visLt b' hb, fun e => by cases e; exact (X.mem.own id b c hi).2.2.1 hb⟩
  have M := X.mem.turn hid (.map sh ks' xs' clk') st (fun b' e => by cases e; exact ⟨c, hi⟩) (fun _ _ => rfl) (fun b' c' h => .inl ⟨c', h⟩) g
    (by rw [hi]; exact ⟨_, World.putObj_heap_same hlt, ms', rfl, hr.mono hle⟩)
  exact ⟨X.go M g hle, Up.of g hle st.size fun i b c h => .inl ⟨i, c, h⟩⟩
theorem op_mkmap (X : InvX C s a w ι vis D) {o : Oper} {t : TypeId} {sh : Sh} (ho : o.op = .makeMap t none) : ResOK C s o a w ι vis D ((AOp.mkmap sh).ex s.env s.σ) := by
  let ι' : Pl := fun i => if i = s.σ.length then some (w.heap.size, 0) else if i < s.σ.length then ι i else none
  have hn : ι' s.σ.length = some (w.heap.size, 0) := by simp [ι']
  have st := Step.alloc w (.map #[] 0)
  have hle := hp_step st (vis := vis) fun b hb => ⟨X.mem.visLt b hb, by simp⟩
  have hoth : ∀ j, j < s.σ.length → ι' j = ι j := fun j hj => by simp [ι', Nat.ne_of_lt hj, hj]
  obtain ⟨M, g⟩ := X.mem.push (ι' := ι') (.map sh [] [] 0) st hoth (fun j hj => by simp only [ι']; rw [if_neg (by omega), if_neg (by omega)]) (fun b c h => by rw [hn] at h; cases h; exact ⟨Nat.le_refl _, by simp⟩)
    (by rw [hn]; exact ⟨_, heap_alloc_new w _, [], rfl, by unfold RepMs; exact ⟨rfl, rfl⟩⟩)
  refine ⟨.map (some w.heap.size), w.alloc (.map #[] 0), ι', .inl ?_, X.go M g hle, Up.of g hle st.size (fun i b c h => ?_), ?_⟩
  · unfold execOp
    simp only [ho]
    have hmk : (Instr.makeMap t none).run C.P w = .ok (.map (some w.heap.size)) (w.alloc (.map #[] 0)) := rfl
    simp [Option.map, hmk]
  · by_cases hi : i = s.σ.length
    · subst hi; rw [hn] at h; cases h; exact .inr (Nat.le_refl _)
    · by_cases hi' : i < s.σ.length
      · rw [hoth i hi'] at h; exact .inl ⟨i, c, h⟩
      · simp only [ι'] at h; rw [if_neg hi, if_neg hi'] at h; cases h
  · unfold RepE
    exact ⟨by simp, by simp [rowLen, AO.len?], _, _, hn, rfl⟩
theorem op_look (X : InvX C s a w ι vis D) {o : Oper} {t kt e : TypeId} {m k : Operand} {m' k' : Opd} {ok : Bool} {sh : Sh} {z : Value} (ho : o.op = .lookup t m k ok) (ht : C.P.underlying t = some (.map kt e)) (hsh : mapSh C.P kt = some sh) (hz : zV C.P e = some z)
    (hm : cOpd C.P m = some m') (hk : cOpd C.P k = some k') : ResOK C s o a w ι vis D ((AOp.look sh z ok m' k').ex s.env s.σ) := by
  simp only [AOp.ex]
  have rm := ev_ok X hm
  have rk := ev_ok X hk
  split
  · rename_i sh' ks xs clk key h1 h2
    split
    · rename_i e
      subst e
      obtain ⟨b, ms, hv, hh, r⟩ := mapOf_ok X h1 rm
      obtain ⟨hkv, hkl⟩ := toKey_ok h2 rk
      obtain ⟨hz1, hz2⟩ := zV_run hz w
      have hfind := run_findKeyV (w := w) hsh hkl r
      have hck := fun em => run_checkKeyV (w := w) hsh em hkl
      have hget : (getObj b).run C.P w = .ok (.map ms.toArray clk) w := by simp [getObj, Sem.run, hh]
      have go : ∀ (v : Value) (f : Bool), ((kfind sh' ks key).bind fun i => (ms[i]?).map fun e => (i, e.val)) = (if f then some (((kfind sh' ks key).getD 0), v) else none) → (f = false → v = z) →
          (execOp a.eval o).run C.P w = .ok (.value (if ok then .tuple #[v, .bool f] else v)) w := fun v f hf hfz => by
        unfold execOp
        simp only [ho, hv, hkv]
        rw [hf] at hfind
        cases f with
        | true => cases ok <;> simp [Instr.lookup, run_underlying ht, hget, hck, hfind]
        | false => rw [hfz rfl]; cases ok <;> simp [Instr.lookup, run_underlying ht, hget, hck, hfind, hz1]
      obtain ⟨q1, q2, q3⟩ := RepMs_iff.1 r
      have fin : ∀ (x : T) (v : Value) (f : Bool), RepT (hp vis w) x v → (execOp a.eval o).run C.P w = .ok (.value (if ok then .tuple #[v, .bool f] else v)) w → ResOK C s o a w ι vis D (.ok (if ok then .tup [.t x, .t (.lit (.bool f))] else .t x) s.σ) := fun x v f rx hr => by
        refine gives_pure X hr ?_
        cases ok
        · simp only [Bool.false_eq_true, if_false]; unfold RepE; exact rx
        · simp only [if_true]
          unfold RepE
          refine ⟨[v, .bool f], rfl, ?_⟩
          unfold RepEs
          refine ⟨v, [.bool f], rfl, by unfold RepE; exact rx, ?_⟩
          unfold RepEs
          exact ⟨.bool f, [], rfl, by unfold RepE RepT; rfl, by unfold RepEs; rfl⟩
      split
      · rename_i i hi
        split
        · rename_i x hx
          have hlt : i < xs.length := (List.getElem?_eq_some_iff.1 hx).1
          have hms : ms[i]? = some (ms[i]'(by omega)) := List.getElem?_eq_getElem _
          have hks : ks[i]? = some (ks[i]'(by omega)) := List.getElem?_eq_getElem _
          obtain ⟨_, _, _, rx⟩ := q3 i x _ _ hx hks hms
          exact fin x _ true rx (go _ true (by simp [hi, hms]) (fun h => by cases h))
        · trivial
      · rename_i hi
        exact fin _ z false (zeroT_rep hz2) (go z false (by simp [hi]) (fun _ => rfl))
    · trivial
  · trivial
theorem kfind_spec {sh : Sh} {ks : List (Nat × List Int)} {key : List Int} {i : Nat} (h : kfind sh ks key = some i) : ∃ b, ks[i]? = some b ∧ kEq (shKinds sh) key b.2 = true := by
  unfold kfind at h
  obtain ⟨hlt, hp, _⟩ := List.findIdx?_eq_some_iff_getElem.1 h
  exact ⟨_, List.getElem?_eq_getElem hlt, hp⟩
theorem modify_key {ms : List MapEntry} {i : Nat} {m : MapEntry} {f : MapEntry → MapEntry} (hm : ms[i]? = some m) : ms.modify i f = ms.set i (f m) := by
  apply List.ext_getElem?
  intro j
  obtain ⟨hlt, he⟩ := List.getElem?_eq_some_iff.1 hm
  rw [List.getElem?_modify]
  by_cases hij : i = j
  · subst hij
    rw [List.getElem?_set_self hlt, hm]
    simp
  · rw [List.getElem?_set_ne hij]
    simp [hij]
theorem RepMs.set {h : Hp} {sh : Sh} {ks : List (Nat × List Int)} {xs : List T} {ms : List MapEntry} (r : RepMs h sh ks xs ms) {i : Nat} {x : T} {v : Value} {m m' : MapEntry} (hm : ms[i]? = some m) (rx : RepT h x v) (h1 : m'.val = v) (h2 : m'.key = m.key) (h3 : m'.born = m.born) : RepMs h sh ks (xs.set i x) (ms.set i m') := by
  obtain ⟨q1, q2, q3⟩ := RepMs_iff.1 r
  refine RepMs_iff.2 ⟨by simpa using q1, by simpa using q2, fun j y b e hy hb he => ?_⟩
  by_cases hij : i = j
  · subst hij
    have hlt : i < ms.length := (List.getElem?_eq_some_iff.1 hm).1
    rw [List.getElem?_set_self (by omega)] at hy he
    cases hy; cases he
    have hx : xs[i]? = some (xs[i]'(by omega)) := List.getElem?_eq_getElem _
    obtain ⟨p1, p2, p3, _⟩ := q3 i _ b m hx hb hm
    exact ⟨by rw [h3, p1], by rw [h2, p2], p3, by rw [h1]; exact rx⟩
  · rw [List.getElem?_set_ne hij] at hy he
    exact q3 j y b e hy hb he
theorem RepMs.push {h : Hp} {sh : Sh} {ks : List (Nat × List Int)} {xs : List T} {ms : List MapEntry} (r : RepMs h sh ks xs ms) {x : T} {v : Value} {key : List Int} {born : Nat} (hl : key.length = (shKinds sh).length) (rx : RepT h x v) :
    RepMs h sh (ks ++ [(born, key)]) (xs ++ [x]) (ms ++ [{ key := keyVal sh key, val := v, born := born }]) := by
  obtain ⟨q1, q2, q3⟩ := RepMs_iff.1 r
  refine RepMs_iff.2 ⟨by simp [q1], by simp [q2], fun j y b e hy hb he => ?_⟩
  by_cases hj : j < xs.length
  · rw [List.getElem?_append_left hj] at hy
    rw [List.getElem?_append_left (by omega)] at hb he
    exact q3 j y b e hy hb he
  · rw [List.getElem?_append_right (by omega)] at hy hb he
    have h0 : j - xs.length = 0 := by
      have := (List.getElem?_eq_some_iff.1 hy).1
      simp at this
      omega
    rw [show j - ks.length = 0 by omega] at hb
    rw [show j - ms.length = 0 by omega] at he
    rw [h0] at hy
    simp at hy hb he
    subst hy hb he
    exact ⟨rfl, rfl, hl, rx⟩
theorem op_mput (X : InvX C s a w ι vis D) {o : Oper} {t kt e : TypeId} {m k v : Operand} {m' k' v' : Opd} {sh : Sh} (ho : o.op = .mapUpdate t m k v ∨ o.op = .insert t m k v) (ht : C.P.underlying t = some (.map kt e)) (hsh : mapSh C.P kt = some sh)
    (hm : cOpd C.P m = some m') (hk : cOpd C.P k = some k') (hv : cOpd C.P v = some v') : ResOK C s o a w ι vis D ((AOp.mput sh m' k' v').ex s.env s.σ) := by
  simp only [AOp.ex]
  have rm := ev_ok X hm
  have rk := ev_ok X hk
  have rv := ev_ok X hv
  split
  · rename_i id key x h1 h2 h3
    rw [h1] at rm
    rw [h3] at rv
    unfold RepE at rm rv
    obtain ⟨_, _, b, c, hi, hmv⟩ := rm
    obtain ⟨hkv, hkl⟩ := toKey_ok h2 rk
    split
    · rename_i sh' ks xs clk hob
      split
      · rename_i es
        subst es
        have hobj := X.mem.objs id _ hob
        rw [hi] at hobj
        obtain ⟨ob, hh, ms, rfl, r⟩ := hobj
        have hget : (getObj b).run C.P w = .ok (.map ms.toArray clk) w := by simp [getObj, Sem.run, hh]
        have hset : ∀ o', (setObj b o').run C.P w = .ok () (w.putObj b o') := fun o' => by simp [setObj, Sem.run, hh, World.putObj]
        have hfind := run_findKeyV (w := w) hsh hkl r
        have hck := run_checkKeyV (w := w) hsh false hkl
        obtain ⟨q1, q2, q3⟩ := RepMs_iff.1 r
        have base : (execOp a.eval o).run C.P w = ((Instr.mapUpdate t (.map (some b)) (keyVal sh' key) (a.eval v)).run C.P w).andThen fun _ w' => .ok .skip w' := by
          rcases ho with ho | ho <;> (unfold execOp; simp only [ho, hmv, hkv]; rw [Sem.run_bind]; rfl)
        split
        · rename_i i hi'
          obtain ⟨bb, hb1, hb2⟩ := kfind_spec hi'
          have hlt : i < ks.length := (List.getElem?_eq_some_iff.1 hb1).1
          have hms : ms[i]? = some (ms[i]'(by omega)) := List.getElem?_eq_getElem _
          have hxs : xs[i]? = some (xs[i]'(by omega)) := List.getElem?_eq_getElem _
          generalize ms[i]'(by omega) = m0 at hms
          obtain ⟨p1, p2, p3, p4⟩ := q3 i _ bb m0 hxs hb1 hms
          have hkk : m0.key = keyVal sh' key := by rw [p2]; exact (keyVal_congr hkl p3 hb2).symm
          have hrun : (execOp a.eval o).run C.P w = .ok .skip (w.putObj b (.map (ms.set i { m0 with val := a.eval v }).toArray clk)) := by
            rw [base]
            have hst : (Instr.keyThatStays m0.key (keyVal sh' key)).run C.P w = .ok (keyVal sh' key) w := by rw [hkk]; exact run_stays _ _
            have hf : (Instr.findKey kt (keyVal sh' key) ms).run C.P w = .ok (some (i, m0.val)) w := by rw [hfind]; simp [hi', hms]
            have hmod : ms.modify i (fun e => { e with key := keyVal sh' key, val := a.eval v }) = ms.set i { m0 with val := a.eval v } := by
              rw [modify_key hms, ← hkk]
            simp [Instr.mapUpdate, run_underlying ht, hget, hck, hf, hms, hst, hset, hmod, Sem.run_bind]
          obtain ⟨X', u⟩ := X.setMap (clk' := clk) hob rfl hi hh (r.set (m' := { m0 with val := a.eval v }) hms rv rfl rfl rfl)
          exact ⟨undef, _, ι, .inr ⟨hrun, rfl⟩, X', u, by unfold RepE RepT; rfl⟩
        · rename_i hi'
          have hrun : (execOp a.eval o).run C.P w = .ok .skip (w.putObj b (.map (ms ++ [({ key := keyVal sh' key, val := a.eval v, born := clk } : MapEntry)]).toArray (clk + 1))) := by
            rw [base]
            have hf : (Instr.findKey kt (keyVal sh' key) ms).run C.P w = .ok none w := by rw [hfind]; simp [hi']
            simp [Instr.mapUpdate, run_underlying ht, hget, hck, hf, hset, Sem.run_bind]
          obtain ⟨X', u⟩ := X.setMap (clk' := clk + 1) hob rfl hi hh (r.push (born := clk) hkl rv)
          exact ⟨undef, _, ι, .inr ⟨hrun, rfl⟩, X', u, by unfold RepE RepT; rfl⟩
      · trivial
    · trivial
  · trivial
theorem rep_pair {yl : Nat} {σ : List AO} {h : Hp} {x y : T} {u v : Value} (r1 : RepT h x u) (r2 : RepT h y v) : RepE yl ι σ h (.tup [.t x, .t y]) (.tuple #[u, v]) := by
  unfold RepE
  refine ⟨[u, v], rfl, ?_⟩
  unfold RepEs
  refine ⟨u, [v], rfl, by unfold RepE; exact r1, ?_⟩
  unfold RepEs
  exact ⟨v, [], rfl, by unfold RepE; exact r2, by unfold RepEs; rfl⟩
theorem op_ment (X : InvX C s a w ι vis D) {o : Oper} {t kt e : TypeId} {m k : Operand} {m' k' : Opd} {sh : Sh} {z : Value} (ho : o.op = .mapEntry t m k) (ht : C.P.underlying t = some (.map kt e)) (hsh : mapSh C.P kt = some sh) (hz : zV C.P e = some z)
    (hm : cOpd C.P m = some m') (hk : cOpd C.P k = some k') : ResOK C s o a w ι vis D ((AOp.ment sh z m' k').ex s.env s.σ) := by
  simp only [AOp.ex]
  have rm := ev_ok X hm
  have rk := ev_ok X hk
  split
  · rename_i id key h1 h2
    rw [h1] at rm
    unfold RepE at rm
    obtain ⟨_, _, b, c, hi, hmv⟩ := rm
    obtain ⟨hkv, hkl⟩ := toKey_ok h2 rk
    split
    · rename_i sh' ks xs clk hob
      split
      · rename_i es
        subst es
        have hobj := X.mem.objs id _ hob
        rw [hi] at hobj
        obtain ⟨ob, hh, ms, rfl, r⟩ := hobj
        have hget : (getObj b).run C.P w = .ok (.map ms.toArray clk) w := by simp [getObj, Sem.run, hh]
        have hset : ∀ o', (setObj b o').run C.P w = .ok () (w.putObj b o') := fun o' => by simp [setObj, Sem.run, hh, World.putObj]
        have hfind := run_findKeyV (w := w) hsh hkl r
        have hck := run_checkKeyV (w := w) hsh false hkl
        obtain ⟨hz1, hz2⟩ := zV_run hz w
        obtain ⟨q1, q2, q3⟩ := RepMs_iff.1 r
        have base : (execOp a.eval o).run C.P w = ((Instr.mapEntry t (.map (some b)) (keyVal sh' key)).run C.P w).andThen fun v w' => .ok (.value v) w' := by
          unfold execOp; simp only [ho, hmv, hkv]; rw [Sem.run_bind]; rfl
        split
        · rename_i i hi'
          split
          · rename_i x bb hxs hb1
            obtain ⟨bb', hb1', hb2⟩ := kfind_spec hi'
            rw [hb1] at hb1'
            cases hb1'
            have hlt : i < ks.length := (List.getElem?_eq_some_iff.1 hb1).1
            have hms : ms[i]? = some (ms[i]'(by omega)) := List.getElem?_eq_getElem _
            generalize ms[i]'(by omega) = m0 at hms
            obtain ⟨p1, p2, p3, p4⟩ := q3 i _ bb m0 hxs hb1 hms
            have hkk : m0.key = keyVal sh' key := by rw [p2]; exact (keyVal_congr hkl p3 hb2).symm
            have hmod : ms.modify i (fun e => { e with key := keyVal sh' key }) = ms := by
              rw [modify_key hms, ← hkk]
              obtain ⟨hlt', he⟩ := List.getElem?_eq_some_iff.1 hms
              have : ({ m0 with key := m0.key } : MapEntry) = ms[i] := he.symm ▸ rfl
              rw [this]
              exact List.set_getElem_self hlt'
            have hrun : (execOp a.eval o).run C.P w = .ok (.value (.tuple #[m0.val, .int .i64 bb.1])) (w.putObj b (.map ms.toArray clk)) := by
              rw [base]
              have hst : (Instr.keyThatStays m0.key (keyVal sh' key)).run C.P w = .ok (keyVal sh' key) w := by rw [hkk]; exact run_stays _ _
              have hf : (Instr.findKey kt (keyVal sh' key) ms).run C.P w = .ok (some (i, m0.val)) w := by rw [hfind]; simp [hi', hms]
              simp [Instr.mapEntry, run_underlying ht, hget, hck, hf, hms, hst, hset, hmod, Sem.run_bind, goInt, p1]
            have hw : w.putObj b (.map ms.toArray clk) = w := by
              obtain ⟨hlt', he⟩ := Array.getElem?_eq_some_iff.1 hh
              have : w.heap.setIfInBounds b (.map ms.toArray clk) = w.heap := by
                apply Array.ext_getElem?
                intro j
                by_cases hj : b = j
                · subst hj; simp [hlt', he]
                · rw [Array.getElem?_setIfInBounds_ne hj]
              unfold World.putObj
              rw [this]
            rw [hw] at hrun
            exact gives_pure X hrun (rep_pair p4 (by unfold RepT; rfl))
          · trivial
        · rename_i hi'
          have hrun : (execOp a.eval o).run C.P w = .ok (.value (.tuple #[z, .int .i64 clk])) (w.putObj b (.map (ms ++ [({ key := keyVal sh' key, val := z, born := clk } : MapEntry)]).toArray (clk + 1))) := by
            rw [base]
            have hf : (Instr.findKey kt (keyVal sh' key) ms).run C.P w = .ok none w := by rw [hfind]; simp [hi']
            simp [Instr.mapEntry, run_underlying ht, hget, hck, hf, hset, Sem.run_bind, hz1, goInt]
          obtain ⟨X', u⟩ := X.setMap (clk' := clk + 1) hob rfl hi hh (r.push (born := clk) hkl (zeroT_rep hz2))
          exact ⟨_, _, ι, .inl hrun, X', u, rep_pair (zeroT_rep hz2) (by unfold RepT; rfl)⟩
      · trivial
    · trivial
  · trivial
theorem op_est (X : InvX C s a w ι vis D) {o : Oper} {t : TypeId} {m st v : Operand} {m' st' v' : Opd} (ho : o.op = .entryStore t m st v)
    (hm : cOpd C.P m = some m') (hst : cOpd C.P st = some st') (hv : cOpd C.P v = some v') : ResOK C s o a w ι vis D ((AOp.est m' st' v').ex s.env s.σ) := by
  simp only [AOp.ex]
  have rm := ev_ok X hm
  have rs := ev_ok X hst
  have rv := ev_ok X hv
  split
  · rename_i id n x h1 h2 h3
    rw [h1] at rm
    rw [h2] at rs
    rw [h3] at rv
    unfold RepE at rm rv
    unfold RepE RepT at rs
    obtain ⟨_, _, b, c, hi, hmv⟩ := rm
    split
    · rename_i sh ks xs clk hob
      split
      · rename_i hn
        have hobj := X.mem.objs id _ hob
        rw [hi] at hobj
        obtain ⟨ob, hh, ms, rfl, r⟩ := hobj
        have hget : (getObj b).run C.P w = .ok (.map ms.toArray clk) w := by simp [getObj, Sem.run, hh]
        have hset : ∀ o', (setObj b o').run C.P w = .ok () (w.putObj b o') := fun o' => by simp [setObj, Sem.run, hh, World.putObj]
        obtain ⟨q1, q2, q3⟩ := RepMs_iff.1 r
        split
        · rename_i i hi'
          unfold bfind at hi'
          obtain ⟨hlt, hp, hfirst⟩ := List.findIdx?_eq_some_iff_getElem.1 hi'
          have hms : ms[i]? = some (ms[i]'(by omega)) := List.getElem?_eq_getElem _
          have hidx : ms.findIdx? (fun e => (e.born : Int) == n) = some i := by
            refine List.findIdx?_eq_some_iff_getElem.2 ⟨by omega, ?_, fun j hj => ?_⟩
            · obtain ⟨p1, _⟩ := q3 i _ _ _ (List.getElem?_eq_getElem (by omega)) (List.getElem?_eq_getElem hlt) (List.getElem?_eq_getElem (by omega))
              simp only [beq_iff_eq] at hp ⊢
              omega
            · obtain ⟨p1, _⟩ := q3 j _ _ _ (List.getElem?_eq_getElem (by omega)) (List.getElem?_eq_getElem (by omega : j < ks.length)) (List.getElem?_eq_getElem (by omega : j < ms.length))
              have := hfirst j hj
              simp only [beq_iff_eq] at this ⊢
              omega
          generalize ms[i]'(by omega) = m0 at hms
          have hmod : ms.modify i (fun e => { e with val := a.eval v }) = ms.set i { m0 with val := a.eval v } := modify_key hms
          have hrun : (execOp a.eval o).run C.P w = .ok .skip (w.putObj b (.map (ms.set i { m0 with val := a.eval v }).toArray clk)) := by
            unfold execOp
            simp only [ho, hmv, rs]
            simp [Instr.entryStore, hget, asInt, asIntOf, hidx, hset, hmod, Sem.run_bind]
          obtain ⟨X', u⟩ := X.setMap (clk' := clk) hob rfl hi hh (r.set (m' := { m0 with val := a.eval v }) hms rv rfl rfl rfl)
          exact ⟨undef, _, ι, .inr ⟨hrun, rfl⟩, X', u, by unfold RepE RepT; rfl⟩
        · trivial
      · trivial
    · trivial
  · trivial
theorem RepMs.erase {h : Hp} {sh : Sh} {ks : List (Nat × List Int)} {xs : List T} {ms : List MapEntry} (r : RepMs h sh ks xs ms) (i : Nat) : RepMs h sh (ks.eraseIdx i) (xs.eraseIdx i) (ms.eraseIdx i) := by
  obtain ⟨q1, q2, q3⟩ := RepMs_iff.1 r
  refine RepMs_iff.2 ⟨by simp only [List.length_eraseIdx, q1], by simp only [List.length_eraseIdx, q2], fun j y b e hy hb he => ?_⟩
  rw [List.getElem?_eraseIdx] at hy hb he
  split at hy
  · rename_i hji; simp only [hji, if_true] at hb he; exact q3 j y b e hy hb he
  · rename_i hji; simp only [hji, if_false] at hb he; exact q3 (j + 1) y b e hy hb he
theorem op_mdel (X : InvX C s a w ι vis D) {o : Oper} {cl : Call} {t kt e : TypeId} {ts : List TypeId} {m k : Operand} {m' k' : Opd} {sh : Sh} (ho : o.op = .call cl) (hb : cl.callee = .builtin .delete) (ha : cl.args.toList = [m, k]) (hts : cl.argTypes.toList = t :: ts)
    (ht : C.P.underlying t = some (.map kt e)) (hsh : mapSh C.P kt = some sh) (hm : cOpd C.P m = some m') (hk : cOpd C.P k = some k') : ResOK C s o a w ι vis D ((AOp.mdel sh m' k').ex s.env s.σ) := by
  simp only [AOp.ex]
  have rm := ev_ok X hm
  have rk := ev_ok X hk
  have h1 : cl.args = #[m, k] := by rw [← Array.toArray_toList (xs := cl.args), ha]
  have h2 : cl.argTypes = (t :: ts).toArray := by rw [← Array.toArray_toList (xs := cl.argTypes), hts]
  split
  · rename_i id key g1 g2
    rw [g1] at rm
    unfold RepE at rm
    obtain ⟨_, _, b, c, hi, hmv⟩ := rm
    obtain ⟨hkv, hkl⟩ := toKey_ok g2 rk
    split
    · rename_i sh' ks xs clk hob
      split
      · rename_i es
        subst es
        have hobj := X.mem.objs id _ hob
        rw [hi] at hobj
        obtain ⟨ob, hh, ms, rfl, r⟩ := hobj
        have hget : (getObj b).run C.P w = .ok (.map ms.toArray clk) w := by simp [getObj, Sem.run, hh]
        have hset : ∀ o', (setObj b o').run C.P w = .ok () (w.putObj b o') := fun o' => by simp [setObj, Sem.run, hh, World.putObj]
        have hfind := run_findKeyV (w := w) hsh hkl r
        have hck := fun em => run_checkKeyV (w := w) hsh em hkl
        obtain ⟨q1, q2, q3⟩ := RepMs_iff.1 r
        obtain ⟨cs, hr⟩ := run_builtin (C := C) (a := a) (w := w) ho hb
        have hw : w.putObj b (.map ms.toArray clk) = w := by
          obtain ⟨hlt', he⟩ := Array.getElem?_eq_some_iff.1 hh
          have : w.heap.setIfInBounds b (.map ms.toArray clk) = w.heap := by
            apply Array.ext_getElem?
            intro j
            by_cases hj : b = j
            · subst hj; simp [hlt', he]
            · rw [Array.getElem?_setIfInBounds_ne hj]
          unfold World.putObj
          rw [this]
        split
        · rename_i i hi'
          obtain ⟨bb, hb1, hb2⟩ := kfind_spec hi'
          have hlt : i < ks.length := (List.getElem?_eq_some_iff.1 hb1).1
          have hms : ms[i]? = some (ms[i]'(by omega)) := List.getElem?_eq_getElem _
          have hf : (Instr.findKey kt (keyVal sh' key) ms).run C.P w = .ok (some (i, (ms[i]'(by omega)).val)) w := by rw [hfind]; simp [hi', hms]
          have her : ms.toArray.eraseIdxIfInBounds i = (ms.eraseIdx i).toArray := by
            simp [Array.eraseIdxIfInBounds, show i < ms.length by omega]
          have hrun : (execOp a.eval o).run C.P w = .ok (.value (.tuple #[])) (w.putObj b (.map (ms.eraseIdx i).toArray clk)) := by
            rw [hr, h1, h2]
            simp [builtin, Builtin.delete_, hmv, hkv, run_underlying ht, hget, hck, hf, hset, Sem.run_bind]
          obtain ⟨X', u⟩ := X.setMap (clk' := clk) hob rfl hi hh (r.erase i)
          exact ⟨_, _, ι, .inl hrun, X', u, by unfold RepE RepT; rfl⟩
        · rename_i hi'
          have hf : (Instr.findKey kt (keyVal sh' key) ms).run C.P w = .ok none w := by rw [hfind]; simp [hi']
          have hrun : (execOp a.eval o).run C.P w = .ok (.value (.tuple #[])) w := by
            rw [hr, h1, h2]
            simp [builtin, Builtin.delete_, hmv, hkv, run_underlying ht, hget, hck, hf, hset, hw, Sem.run_bind]
          exact gives_pure X hrun (by unfold RepE RepT; rfl)
      · trivial
    · trivial
  · trivial
theorem op_mlen (X : InvX C s a w ι vis D) {o : Oper} {cl : Call} {t kt e : TypeId} {ts : List TypeId} {m : Operand} {m' : Opd} (ho : o.op = .call cl) (hb : cl.callee = .builtin .len) (ha : cl.args.toList = [m]) (hts : cl.argTypes.toList = t :: ts)
    (ht : C.P.underlying t = some (.map kt e)) (hm : cOpd C.P m = some m') : ResOK C s o a w ι vis D ((AOp.mlen m').ex s.env s.σ) := by
  simp only [AOp.ex]
  have rm := ev_ok X hm
  have h1 : cl.args = #[m] := by rw [← Array.toArray_toList (xs := cl.args), ha]
  have h2 : cl.argTypes = (t :: ts).toArray := by rw [← Array.toArray_toList (xs := cl.argTypes), hts]
  obtain ⟨cs, hr⟩ := run_builtin (C := C) (a := a) (w := w) ho hb
  split
  · rename_i sh ks xs clk h
    obtain ⟨b, ms, hv, hh, r⟩ := mapOf_ok X h rm
    obtain ⟨q1, q2, q3⟩ := RepMs_iff.1 r
    have hget : (getObj b).run C.P w = .ok (.map ms.toArray clk) w := by simp [getObj, Sem.run, hh]
    refine gives_pure X (v := .int .i64 xs.length) ?_ (by unfold RepE RepT; rfl)
    rw [hr, h1, h2]
    simp [builtin, Builtin.len_, hv, run_underlying ht, hget, goInt, q2]
  · split
    · rename_i h
      rw [h] at rm
      unfold RepE RepT at rm
      refine gives_pure X (v := .int .i64 0) ?_ (by unfold RepE RepT; rfl)
      rw [hr, h1, h2]
      simp [builtin, Builtin.len_, rm, run_underlying ht, goInt]
    · trivial
theorem op_rng (X : InvX C s a w ι vis D) {o : Oper} {t kt e : TypeId} {m : Operand} {m' : Opd} (ho : o.op = .range t m) (ht : C.P.underlying t = some (.map kt e)) (hm : cOpd C.P m = some m') : ResOK C s o a w ι vis D ((AOp.rng m').ex s.env s.σ) := by
  simp only [AOp.ex]
  have rm := ev_ok X hm
  split
  · rename_i sh ks xs clk h
    obtain ⟨b, ms, hv, hh, r⟩ := mapOf_ok X h rm
    have hget : (getObj b).run C.P w = .ok (.map ms.toArray clk) w := by simp [getObj, Sem.run, hh]
    let ob : Go.Obj := .mapIter (some b) clk #[] clk
    let ι' : Pl := fun i => if i = s.σ.length then some (w.heap.size, 0) else if i < s.σ.length then ι i else none
    have hn : ι' s.σ.length = some (w.heap.size, 0) := by simp [ι']
    have st := Step.alloc w ob
    have hle := hp_step st (vis := vis) fun b hb => ⟨X.mem.visLt b hb, by simp⟩
    have hoth : ∀ j, j < s.σ.length → ι' j = ι j := fun j hj => by simp [ι', Nat.ne_of_lt hj, hj]
    have g : Goes ι s.σ ι' (s.σ ++ [.iter (m'.ev s.env) clk [] clk]) := ⟨by simp, fun id hid hl => ⟨by unfold rowLen at *; rw [List.getElem?_append_left hid]; exact hl, hoth id hid⟩,
      fun id n hid hl => ⟨n, by unfold rowLen at *; rw [List.getElem?_append_left hid]; exact hl, Nat.le_refl _, fun _ => hoth id hid⟩⟩
    obtain ⟨M, _⟩ := X.mem.push (ι' := ι') (.iter (m'.ev s.env) clk [] clk) st hoth (fun j hj => by simp only [ι']; rw [if_neg (by omega), if_neg (by omega)]) (fun b c h => by rw [hn] at h; cases h; exact ⟨Nat.le_refl _, by simp⟩)
      (by rw [hn]; exact ⟨_, heap_alloc_new w _, b, by rw [← hv]; exact rm.mono g hle, rfl⟩)
    refine ⟨.pointer (some ⟨w.heap.size, 0, none⟩), w.alloc ob, ι', .inl ?_, X.go M g hle, Up.of g hle st.size (fun i b c h => ?_), ?_⟩
    · unfold execOp
      simp only [ho, hv]
      simp [Instr.range, run_underlying ht, hget, Sem.run_bind, ob]
    · by_cases hi : i = s.σ.length
      · subst hi; rw [hn] at h; cases h; exact .inr (Nat.le_refl _)
      · by_cases hi' : i < s.σ.length
        · rw [hoth i hi'] at h; exact .inl ⟨i, c, h⟩
        · simp only [ι'] at h; rw [if_neg hi, if_neg hi'] at h; cases h
    · unfold RepE
      exact ⟨by simp, by simp [rowLen, AO.len?], _, _, hn, rfl⟩
  · trivial
theorem kc_one : ∀ (ks : Kinds) (ns : List Int), ∀ v ∈ kc ks ns, One v
  | [], _, v, hv => by simp [kc] at hv
  | _ :: _, [], v, hv => by simp [kc] at hv
  | k :: ks, n :: ns, v, hv => by
    simp only [kc, List.mem_cons] at hv
    rcases hv with rfl | hv
    · cases k <;> rfl
    · exact kc_one ks ns v hv
theorem keyT_rep (h : Hp) (sh : Sh) (key : List Int) : RepT h (keyT sh key) (keyVal sh key) := by
  obtain ⟨s1, s2⟩ := sh
  cases s1 with
  | some ks =>
    unfold keyT keyVal RepT
    refine ⟨_, rfl, ?_, fun v hv => kc_one ks key v hv⟩
    refine RepTs_iff.2 ⟨by simp, fun i x v hx hv => ?_⟩
    rw [List.getElem?_map, hv] at hx
    cases hx
    unfold RepT; rfl
  | none => unfold keyT keyVal RepT; rfl
theorem mleft_mem {ks : List (Nat × List Int)} {xs : List T} {seen : List Nat} {b : Nat × List Int} {x : T} : (b, x) ∈ mleft ks xs seen ↔ (∃ j : Nat, ks[j]? = some b ∧ xs[j]? = some x) ∧ b.1 ∉ seen := by
  unfold mleft
  simp only [List.mem_filter, List.contains_eq_mem, Bool.not_eq_true', decide_eq_false_iff_not]
  refine and_congr_left fun _ => ?_
  rw [List.mem_iff_getElem?]
  refine exists_congr fun j => ?_
  rw [List.getElem?_zip_eq_some]
theorem op_nxt (X : InvX C s a w ι vis D) {o : Oper} {it : Operand} {it' : Opd} (ho : o.op = .next it false) (hit : cOpd C.P it = some it') : ResOK C s o a w ι vis D ((AOp.nxt it').ex s.env s.σ) := by
  simp only [AOp.ex]
  have ri := ev_ok X hit
  split
  · rename_i id h
    rw [h] at ri
    unfold RepE at ri
    obtain ⟨_, _, b, c, hi, hv⟩ := ri
    split
    · rename_i m since seen last hob
      split
      · rename_i sh ks xs clk hmap
        have hobj := X.mem.objs id _ hob
        rw [hi] at hobj
        obtain ⟨ob, hh, mb, rm, rfl⟩ := hobj
        obtain ⟨mb', ms, e, hh2, r⟩ := mapOf_ok X hmap rm
        cases e
        obtain ⟨q1, q2, q3⟩ := RepMs_iff.1 r
        rintro ⟨hold, hsc⟩
        have hidx : ∀ e ∈ ms, ∃ j, ∃ (bb : Nat × List Int) (x : T), ms[j]? = some e ∧ ks[j]? = some bb ∧ xs[j]? = some x ∧ e.born = bb.1 ∧ e.key = keyVal sh bb.2 ∧ RepT (hp vis w) x e.val := fun e he => by
          obtain ⟨j, hj⟩ := List.mem_iff_getElem?.1 he
          have hlt : j < ms.length := (List.getElem?_eq_some_iff.1 hj).1
          have hk : ks[j]? = some (ks[j]'(by omega)) := List.getElem?_eq_getElem _
          have hx : xs[j]? = some (xs[j]'(by omega)) := List.getElem?_eq_getElem _
          obtain ⟨p1, p2, _, p4⟩ := q3 j _ _ e hx hk hj
          exact ⟨j, _, _, hj, hk, hx, p1, p2, p4⟩
        have hold' : ∀ x ∈ ms.toArray.toList, x.born < since := fun e he => by
          obtain ⟨j, bb, x, _, hk, _, hb, _⟩ := hidx e (by simpa using he)
          rw [hb]
          exact hold bb (List.mem_of_getElem? hk)
        have base : ∀ (res : Result Value), (Instr.next (.pointer (some ⟨b, 0, none⟩)) false o.type).run C.P w = res → (execOp a.eval o).run C.P w = res.andThen fun v w' => .ok (.value v) w' := fun res hres => by
          unfold execOp; simp only [ho, hv]; rw [Sem.run_bind, hres]; rfl
        rcases run_next_at (P := C.P) w o.type b mb since last seen.toArray ms.toArray clk hh hh2 hold' hsc with ⟨hz, hrun⟩ | ⟨e, he, w1, hw1, hrun⟩
        · have hnil : mleft ks xs seen = [] := by
            rw [List.eq_nil_iff_forall_not_mem]
            rintro ⟨bb, x⟩ hmem
            obtain ⟨⟨j, hk, hx⟩, hns⟩ := mleft_mem.1 hmem
            have hlt : j < xs.length := (List.getElem?_eq_some_iff.1 hx).1
            have hj : ms[j]? = some (ms[j]'(by omega)) := List.getElem?_eq_getElem _
            obtain ⟨p1, _⟩ := q3 j x bb _ hx hk hj
            have : ms[j]'(by omega) ∈ (leftOf ms.toArray seen.toArray).toList := by
              unfold leftOf
              simp only [Array.toList_filter, List.mem_filter]
              exact ⟨by simp, by rw [p1]; simpa using hns⟩
            have h0 : (leftOf ms.toArray seen.toArray).toList = [] := List.eq_nil_of_length_eq_zero (by simpa using hz)
            rw [h0] at this
            cases this
          rw [if_pos hnil]
          exact gives_pure X (base _ hrun) (by
            unfold RepE
            refine ⟨[.bool false], rfl, ?_⟩
            unfold RepEs
            exact ⟨.bool false, [], rfl, by unfold RepE RepT; rfl, by unfold RepEs; rfl⟩)
        · unfold leftOf at he
          simp only [Array.toList_filter, List.mem_filter] at he
          obtain ⟨he1, he2⟩ := he
          obtain ⟨j, bb, x, hj, hk, hx, hb, hkey, rx⟩ := hidx e (by simpa using he1)
          have hmem : (bb, x) ∈ mleft ks xs seen := mleft_mem.2 ⟨⟨j, hk, hx⟩, by rw [← hb]; simpa using he2⟩
          have hne : mleft ks xs seen ≠ [] := List.ne_nil_of_mem hmem
          rw [if_neg hne]
          obtain ⟨i, hi'⟩ := List.mem_iff_getElem?.1 hmem
          refine ⟨i, ?_⟩
          simp only [hi']
          have hid : id < s.σ.length := (List.getElem?_eq_some_iff.1 hob).1
          have hlt : b < w.heap.size := (X.mem.own id b c hi).2.1
          have hheap : w1.heap = w.heap ∧ w1.os = w.os ∧ w1.tape = w.tape ∧ w1.output = w.output := by rcases hw1 with rfl | rfl <;> exact ⟨rfl, rfl, rfl, rfl⟩
          obtain ⟨e1, e2, e3, e4⟩ := hheap
          have st : Step w (setBlock w1 b (.mapIter (some mb) since (seen.toArray.push e.born) clk)) (some b) :=
            ⟨by simp [setBlock, e1], e2, e3, e4, fun k _ hk => by simp only [setBlock, e1]; exact Array.getElem?_setIfInBounds_ne fun e => hk (by rw [e])⟩
          have hle := hp_step st (vis := vis) fun b' hb => ⟨X.mem.visLt b' hb, fun e => by cases e; exact (X.mem.own id b c hi).2.2.1 hb⟩
          have g : Goes ι s.σ ι (s.σ.set id (.iter m since (seen ++ [bb.1]) clk)) := Goes.set hob rfl
          have M := X.mem.turn hid (.iter m since (seen ++ [bb.1]) clk) st (fun b' e => by cases e; exact ⟨c, hi⟩) (fun _ _ => rfl) (fun b' c' h => .inl ⟨c', h⟩) g
            (by rw [hi]; exact ⟨.mapIter (some mb) since (seen.toArray.push e.born) clk, by simp [setBlock, e1, hlt], mb, rm.mono g hle, by rw [hb]; simp⟩)
          refine ⟨_, _, ι, .inl (base _ hrun), X.go M g hle, Up.of g hle st.size (fun i b c h => .inl ⟨i, c, h⟩), ?_⟩
          unfold RepE
          refine ⟨[.bool true, e.key, e.val], rfl, ?_⟩
          unfold RepEs
          refine ⟨_, _, rfl, by unfold RepE RepT; rfl, ?_⟩
          unfold RepEs
          refine ⟨_, _, rfl, by unfold RepE; rw [hkey]; exact keyT_rep _ _ _, ?_⟩
          unfold RepEs
          exact ⟨_, _, rfl, by unfold RepE; exact rx.mono hle, by unfold RepEs; rfl⟩
      · trivial
    · trivial
  · trivial
theorem op_ent (X : InvX C s a w ι vis D) {o : Oper} {it : Operand} {it' : Opd} (ho : o.op = .entry it) (hit : cOpd C.P it = some it') : ResOK C s o a w ι vis D ((AOp.ent it').ex s.env s.σ) := by
  simp only [AOp.ex]
  have ri := ev_ok X hit
  split
  · rename_i id h
    rw [h] at ri
    unfold RepE at ri
    obtain ⟨_, _, b, c, hi, hv⟩ := ri
    split
    · rename_i m since seen last hob
      split
      · rename_i sh ks xs clk hmap
        split
        · rename_i born hlast
          have hobj := X.mem.objs id _ hob
          rw [hi] at hobj
          obtain ⟨ob, hh, mb, rm, rfl⟩ := hobj
          obtain ⟨mb', ms, e, hh2, r⟩ := mapOf_ok X hmap rm
          cases e
          obtain ⟨q1, q2, q3⟩ := RepMs_iff.1 r
          rintro ⟨rfl, hnd⟩
          split
          · rename_i born' key x hf
            have hmem := List.mem_of_find?_eq_some hf
            have hbb := List.find?_some hf
            simp only [beq_iff_eq] at hbb
            subst hbb
            obtain ⟨j, hj⟩ := List.mem_iff_getElem?.1 hmem
            obtain ⟨hk, hx⟩ := List.getElem?_zip_eq_some.1 hj
            have hlt : j < xs.length := (List.getElem?_eq_some_iff.1 hx).1
            have hms : ms[j]? = some (ms[j]'(by omega)) := List.getElem?_eq_getElem _
            generalize ms[j]'(by omega) = e at hms
            obtain ⟨p1, p2, p3, p4⟩ := q3 j x _ e hx hk hms
            have hbs : ms.map (·.born) = ks.map (·.1) := by
              apply List.ext_getElem?
              intro i
              simp only [List.getElem?_map]
              cases hki : ks[i]? with
              | none =>
                have : ms[i]? = none := List.getElem?_eq_none (by have := List.getElem?_eq_none_iff.1 hki; omega)
                simp [this]
              | some bb =>
                have hlt := (List.getElem?_eq_some_iff.1 hki).1
                have hm : ms[i]? = some (ms[i]'(by omega)) := List.getElem?_eq_getElem _
                obtain ⟨p, _⟩ := q3 i _ bb _ (List.getElem?_eq_getElem (by omega)) hki hm
                simp [hm, p]
            have hseen : seen.toArray = seen.dropLast.toArray.push e.born := by
              rw [p1]
              simp only [List.push_toArray]
              congr 1
              have hne : seen ≠ [] := fun e => by rw [e] at hlast; cases hlast
              have h1 := List.dropLast_concat_getLast hne
              have h2 : seen.getLast hne = born' := by rw [List.getLast?_eq_some_getLast hne] at hlast; exact Option.some.inj hlast
              rw [← h2, h1]
            have hrun := run_entry_at (P := C.P) w b mb since seen.dropLast.toArray ms.toArray clk e (by rw [← hseen]; exact hh) hh2 (by simpa using List.mem_of_getElem? hms) (by rw [hbs]; exact hnd)
            refine gives_pure X (v := .tuple #[e.key, e.val]) ?_ (by rw [p2]; exact rep_pair (keyT_rep _ _ _) p4)
            unfold execOp
            simp only [ho, hv]
            rw [Sem.run_bind, hrun]
            rfl
          · trivial
        · trivial
      · trivial
    · trivial
  · trivial
theorem op_eqs (X : InvX C s a w ι vis D) {o : Oper} {op : BinOp} {neg : Bool} {t u : TypeId} {x y : Operand} {x' y' : Opd} {ks : Kinds} (ho : o.op = .binOp op t x y u) (hw : isWide C.P t = true) (hg : C.P.eqGuardType C.P.depth t = false) (hk : kcells C.P 20 t = some ks)
    (hn : op = if neg then .neq else .eql) (hx : cOpd C.P x = some x') (hy : cOpd C.P y = some y') : ResOK C s o a w ι vis D ((AOp.eqs neg ks x' y').ex s.env s.σ) := by
  have rx := ev_ok X hx
  have ry := ev_ok X hy
  simp only [AOp.ex]
  split
  · rename_i ka kb h1 h2
    obtain ⟨e1, l1⟩ := toKey_ok h1 rx
    obtain ⟨e2, l2⟩ := toKey_ok h2 ry
    have heq := equalIn_kv (P := C.P) w 9980 20 t ks hk ka kb l1 l2
    simp only [kv, hw, if_true] at heq
    refine gives_pure X (v := .bool (if neg then !(kEq ks ka kb) else kEq ks ka kb)) ?_ (by unfold RepE RepT; rfl)
    unfold execOp
    simp only [ho, e1, e2, keyVal]
    have hgd := run_eqGuard_agg (P := C.P) w op t x y (kc ks ka).toArray (kc ks kb).toArray hg
    subst hn
    cases neg
    · have := run_eql_struct (P := C.P) w t (kc ks ka).toArray (kc ks kb).toArray
      rw [heq] at this
      simp only [Bool.false_eq_true, if_false] at hgd ⊢
      simp [Sem.run_bind, hgd, this]
    · have := run_neq_struct (P := C.P) w t (kc ks ka).toArray (kc ks kb).toArray
      rw [heq] at this
      simp only [if_true] at hgd ⊢
      simp [Sem.run_bind, hgd, this]
  · trivial
end
end Go.Ab
