/- Proved here: laws that the statements need (AbT). No conditions but those that each law states. -/
import Derived.Test.YtbhbbjngndmnmaaGreatDoorFD
import Derived.DeepKeys3
set_option linter.unusedSimpArgs false
set_option linter.unusedVariables false
namespace Go.Ab
def kv (P : Program) (t : TypeId) (cs : List Value) : Value := if isWide P t then .agg cs.toArray else cs.headD undef
theorem kc_length : ∀ {ks : Kinds} {ns : List Int}, ns.length = ks.length → (kc ks ns).length = ks.length
  | [], [], _ => rfl
  | _ :: ks, _ :: ns, h => by simp only [kc, List.length_cons]; rw [kc_length (by simpa using h)]
  | [], _ :: _, h => by simp at h
  | _ :: _, [], h => by simp at h
theorem kc_append : ∀ {ks ks' : Kinds} {ns ns' : List Int}, ns.length = ks.length → kc (ks ++ ks') (ns ++ ns') = kc ks ns ++ kc ks' ns'
  | [], _, [], _, _ => rfl
  | _ :: ks, ks', _ :: ns, ns', h => by simp only [List.cons_append, kc]; rw [kc_append (by simpa using h)]
  | [], _, _ :: _, _, h => by simp at h
  | _ :: _, _, [], _, h => by simp at h
theorem kEq_append : ∀ {ks ks' : Kinds} {as bs as' bs' : List Int}, as.length = ks.length → bs.length = ks.length → kEq (ks ++ ks') (as ++ as') (bs ++ bs') = (kEq ks as bs && kEq ks' as' bs')
  | [], _, [], [], _, _, _, _ => by simp [kEq]
  | k :: ks, ks', a :: as, b :: bs, _, _, h1, h2 => by simp only [List.cons_append, kEq]; rw [kEq_append (by simpa using h1) (by simpa using h2), Bool.and_assoc]
  | [], _, _ :: _, _, _, _, h, _ => by simp at h
  | _ :: _, _, [], _, _, _, h, _ => by simp at h
  | [], _, [], _ :: _, _, _, _, h => by simp at h
  | _ :: _, _, _ :: _, [], _, _, _, h => by simp at h
section
variable {P : Program} (w : World)
theorem run_part_kv {t : TypeId} {i : TypeInfo} {pre cs post : List Value} (hi : P.info? t = some i) (hl : cs.length = P.cellsOf t) (hs : isWide P t = false → cs ≠ []) (hu : ∃ d, P.underlying t = some d) :
    (part t (pre ++ (cs ++ post)).toArray pre.length).run P w = .ok (kv P t cs) w := by
  obtain ⟨d, hu⟩ := hu
  unfold part
  cases hw : isWide P t with
  | true =>
    have hagg : (isAgg t).run P w = .ok true w := by
      unfold isWide at hw
      rw [hu] at hw
      cases d <;> simp at hw <;> simp [isAgg, run_underlying hu]
    simp only [Sem.run_bind, hagg, Result.andThen_ok, if_true, run_sizeOf w hi, Sem.run_pure, kv, hw]
    congr 2
    apply Array.ext'
    rw [← hl, Array.toList_extract]
    simp [List.extract_eq_take_drop]
  | false =>
    have hagg : (isAgg t).run P w = .ok false w := by
      unfold isWide at hw
      rw [hu] at hw
      cases d <;> simp at hw <;> simp [isAgg, run_underlying hu]
    cases cs with
    | nil => exact absurd rfl (hs hw)
    | cons c cs =>
      simp [Sem.run_bind, hagg, kv, hw]
theorem kcells_under {d : Nat} {t : TypeId} {ks : Kinds} (h : kcells P d t = some ks) : (∃ k, P.underlying t = some k) ∧ (isWide P t = false → ks ≠ []) := by
  cases d with
  | zero => simp [kcells] at h
  | succ d =>
    simp only [kcells] at h
    split at h
    · rename_i k hu; cases h; exact ⟨⟨_, hu⟩, by simp⟩
    · rename_i hu; cases h; exact ⟨⟨_, hu⟩, by simp⟩
    · rename_i fs hu; exact ⟨⟨_, hu⟩, by simp [isWide, hu]⟩
    · rename_i n e hu; exact ⟨⟨_, hu⟩, by simp [isWide, hu]⟩
    · cases h
theorem eqFields_kv {d D : Nat} (IH : ∀ t ks, kcells P d t = some ks → ∀ (ns ms : List Int), ns.length = ks.length → ms.length = ks.length → (Op.equalIn D t (kv P t (kc ks ns)) (kv P t (kc ks ms))).run P w = .ok (kEq ks ns ms) w) :
    ∀ (fs : List Field) (off : Nat) (ks : Kinds), kfields P (kcells P d) fs off = some ks → ∀ (pre pre' : List Value) (ns ms : List Int), pre.length = off → pre'.length = off → ns.length = ks.length → ms.length = ks.length →
      (Op.eqFields D (pre ++ kc ks ns).toArray (pre' ++ kc ks ms).toArray fs).run P w = .ok (kEq ks ns ms) w
  | [], off, ks, h, _, _, ns, ms, _, _, h1, h2 => by
    simp only [kfields] at h; cases h
    simp only [Op.eqFields, Sem.run_pure]
    cases ns <;> cases ms <;> simp_all [kEq]
  | f :: fs, off, ks, h, pre, pre', ns, ms, hp, hp', h1, h2 => by
    simp only [kfields] at h
    split at h
    rotate_left
    · cases h
    rename_i hcond
    split at h
    · rename_i kf hkf
      split at h
      · rename_i hlen
        split at h
        · rename_i l hl
          cases h
          obtain ⟨hu, hs⟩ := kcells_under hkf
          obtain ⟨dd, hdd⟩ := hu
          obtain ⟨i, hi⟩ := info_of_underlying hdd
          simp only [List.length_append] at h1 h2
          have e1 : ns = ns.take kf.length ++ ns.drop kf.length := (List.take_append_drop _ _).symm
          have e2 : ms = ms.take kf.length ++ ms.drop kf.length := (List.take_append_drop _ _).symm
          have l1 : (ns.take kf.length).length = kf.length := by simp; omega
          have l2 : (ms.take kf.length).length = kf.length := by simp; omega
          have l3 : (ns.drop kf.length).length = l.length := by simp; omega
          have l4 : (ms.drop kf.length).length = l.length := by simp; omega
          generalize ns.take kf.length = na at *
          generalize ns.drop kf.length = nb at *
          generalize ms.take kf.length = ma at *
          generalize ms.drop kf.length = mb at *
          subst e1 e2
          have p1 := run_part_kv w (pre := pre) (cs := kc kf na) (post := kc l nb) hi (by rw [kc_length l1, hlen]) (fun hw => by have := hs hw; intro e; have := kc_length l1; rw [e] at this; exact hs hw (List.eq_nil_of_length_eq_zero (by simpa using this.symm))) ⟨dd, hdd⟩
          have p2 := run_part_kv w (pre := pre') (cs := kc kf ma) (post := kc l mb) hi (by rw [kc_length l2, hlen]) (fun hw => by have := hs hw; intro e; have := kc_length l2; rw [e] at this; exact hs hw (List.eq_nil_of_length_eq_zero (by simpa using this.symm))) ⟨dd, hdd⟩
          rw [hp] at p1
          rw [hp'] at p2
          rw [kc_append l1, kc_append l2, kEq_append l1 l2]
          have hc1 : f.name ≠ "_" := hcond.1
          simp only [Op.eqFields, if_pos hc1, hcond.2, Sem.run_bind, p1, p2, Result.andThen_ok, IH f.type kf hkf na ma l1 l2]
          cases hq : kEq kf na ma with
          | false => simp
          | true =>
            have := eqFields_kv IH fs (off + kf.length) l hl (pre ++ kc kf na) (pre' ++ kc kf ma) nb mb (by rw [List.length_append, kc_length l1, hp]) (by rw [List.length_append, kc_length l2, hp']) l3 l4
            rw [List.append_assoc, List.append_assoc] at this
            simpa using this
        · cases h
      · cases h
    · cases h
theorem eqItems_kv {D : Nat} {e : TypeId} {ks : Kinds} {i : TypeInfo} (hi : P.info? e = some i) (hu : ∃ d, P.underlying e = some d) (hs : isWide P e = false → ks ≠ []) (hlen : ks.length = P.cellsOf e)
    (IH : ∀ (ns ms : List Int), ns.length = ks.length → ms.length = ks.length → (Op.equalIn D e (kv P e (kc ks ns)) (kv P e (kc ks ms))).run P w = .ok (kEq ks ns ms) w) :
    ∀ (n j : Nat) (pre pre' : List Value) (ns ms : List Int), pre.length = j * ks.length → pre'.length = j * ks.length → ns.length = n * ks.length → ms.length = n * ks.length →
      (Op.eqItems D e (P.cellsOf e) (pre ++ kc (List.replicate n ks).flatten ns).toArray (pre' ++ kc (List.replicate n ks).flatten ms).toArray (List.range' j n)).run P w = .ok (kEq (List.replicate n ks).flatten ns ms) w
  | 0, j, _, _, ns, ms, _, _, h1, h2 => by
    simp only [List.range'_zero, Op.eqItems, Sem.run_pure, List.replicate_zero, List.flatten_nil]
    cases ns <;> cases ms <;> simp_all [kEq]
  | n + 1, j, pre, pre', ns, ms, hp, hp', h1, h2 => by
    have e1 : ns = ns.take ks.length ++ ns.drop ks.length := (List.take_append_drop _ _).symm
    have e2 : ms = ms.take ks.length ++ ms.drop ks.length := (List.take_append_drop _ _).symm
    have h1' : ns.length = n * ks.length + ks.length := by rw [h1, Nat.succ_mul]
    have h2' : ms.length = n * ks.length + ks.length := by rw [h2, Nat.succ_mul]
    have l1 : (ns.take ks.length).length = ks.length := by simp; omega
    have l2 : (ms.take ks.length).length = ks.length := by simp; omega
    have l3 : (ns.drop ks.length).length = n * ks.length := by simp; omega
    have l4 : (ms.drop ks.length).length = n * ks.length := by simp; omega
    generalize ns.take ks.length = na at *
    generalize ns.drop ks.length = nb at *
    generalize ms.take ks.length = ma at *
    generalize ms.drop ks.length = mb at *
    subst e1 e2
    have p1 := run_part_kv w (pre := pre) (cs := kc ks na) (post := kc (List.replicate n ks).flatten nb) hi (by rw [kc_length l1, hlen]) (fun hw => by intro e; have := kc_length l1; rw [e] at this; exact hs hw (List.eq_nil_of_length_eq_zero (by simpa using this.symm))) hu
    have p2 := run_part_kv w (pre := pre') (cs := kc ks ma) (post := kc (List.replicate n ks).flatten mb) hi (by rw [kc_length l2, hlen]) (fun hw => by intro e; have := kc_length l2; rw [e] at this; exact hs hw (List.eq_nil_of_length_eq_zero (by simpa using this.symm))) hu
    rw [hp, hlen] at p1
    rw [hp', hlen] at p2
    rw [List.replicate_succ, List.flatten_cons, kc_append l1, kc_append l2, kEq_append l1 l2, List.range'_succ]
    simp only [Op.eqItems, Sem.run_bind, p1, p2, Result.andThen_ok, IH na ma l1 l2]
    cases hq : kEq ks na ma with
    | false => simp
    | true =>
      have := eqItems_kv hi hu hs hlen IH n (j + 1) (pre ++ kc ks na) (pre' ++ kc ks ma) nb mb (by rw [List.length_append, kc_length l1, hp, Nat.succ_mul]) (by rw [List.length_append, kc_length l2, hp', Nat.succ_mul]) l3 l4
      rw [List.append_assoc, List.append_assoc] at this
      simpa using this
theorem equalIn_kv (D : Nat) : ∀ (d : Nat) (t : TypeId) (ks : Kinds), kcells P d t = some ks → ∀ (ns ms : List Int), ns.length = ks.length → ms.length = ks.length → (Op.equalIn (D + d) t (kv P t (kc ks ns)) (kv P t (kc ks ms))).run P w = .ok (kEq ks ns ms) w
  | 0, t, ks, h, _, _, _, _ => by simp [kcells] at h
  | d + 1, t, ks, h, ns, ms, h1, h2 => by
    simp only [kcells] at h
    split at h
    · rename_i k hu
      cases h
      match ns, ms, h1, h2 with
      | [a], [b], _, _ =>
        have e : ∀ n : Int, kv P t (kc [some k] [n]) = .int k n := fun n => by simp [kv, isWide, hu, kc, keyCell]
        rw [e, e, show D + (d + 1) = (D + d) + 1 from rfl, run_equalIn_int w (D + d) t k k a b hu]
        simp [kEq, cellEq]
    · rename_i hu
      cases h
      match ns, ms, h1, h2 with
      | [a], [b], _, _ =>
        have e : ∀ n : Int, kv P t (kc [none] [n]) = .bool (n != 0) := fun n => by simp [kv, isWide, hu, kc, keyCell]
        rw [e, e, show D + (d + 1) = (D + d) + 1 from rfl, run_equalIn_bool w (D + d) t _ _ hu]
        simp [kEq, cellEq]
    · rename_i fs hu
      split at h
      · cases h
      rename_i hst
      have hfs : P.fieldsOf t = fs := by simp [Program.fieldsOf, hu]
      have hw : isWide P t = true := by simp [isWide, hu]
      simp only [kv, hw, if_true]
      rw [show D + (d + 1) = (D + d) + 1 from rfl, run_equalIn_struct w (D + d) t _ _ (by rw [hfs]; exact hu) (by simpa using hst), hfs]
      have := eqFields_kv w (d := d) (D := D + d) (fun t ks h ns ms h1 h2 => equalIn_kv D d t ks h ns ms h1 h2) fs.toList 0 ks h [] [] ns ms rfl rfl h1 h2
      simpa using this
    · rename_i n e hu
      split at h
      · rename_i k hk
        split at h
        · rename_i hlen
          cases h
          have hw : isWide P t = true := by simp [isWide, hu]
          obtain ⟨⟨dd, hdd⟩, hs⟩ := kcells_under hk
          obtain ⟨i, hi⟩ := info_of_underlying hdd
          simp only [kv, hw, if_true]
          rw [show D + (d + 1) = (D + d) + 1 from rfl, run_equalIn_array w (D + d) _ _ hu hi, List.range_eq_range']
          have hl : (List.replicate n k).flatten.length = n * k.length := by simp
          have := eqItems_kv w hi ⟨dd, hdd⟩ hs hlen (fun ns ms h1 h2 => equalIn_kv D d e k hk ns ms h1 h2) n 0 [] [] ns ms (by simp) (by simp) (by rw [h1, hl]) (by rw [h2, hl])
          simpa using this
        · cases h
      · cases h
    · cases h
end
end Go.Ab
