/- Proved here: laws that the statements need (WyC). No conditions but those that each law states. -/
import Derived.Test.YtnmmhkkmejbckaaGreatDoorYN

set_option linter.unusedSimpArgs false
set_option linter.unusedVariables false

/- The document's truths: rows of rows that grow by recursion. -/
namespace Go.Proofs.YtnmmhkkmejbckaaGreatDoor
open Go Go.Ab

def tI' (l : List Int) : T := .slice 1 (l.map vi)
def rowR (L : List (List Int)) : AO := .row 1 ((L.map tI').map .t)
def rtr (w : Wa) (set : Nat) : Nat → List Int → List (List Int)
  | 0, bg => [bg]
  | l + 1, bg => if set.testBit bg.length then (List.range w.os.length).flatMap fun o => if (w.fits.getD bg.length 0).testBit o && !bg.contains (o : Int) then rtr w set l (bg ++ [(o : Int)]) else [] else rtr w set l (bg ++ [-1])
theorem flatMap_len {α : Type} (g : Nat → List α) (B : Nat) (h : ∀ o, (g o).length ≤ B) : ∀ n, ((List.range n).flatMap g).length ≤ n * B
  | 0 => by simp
  | n + 1 => by
    have := flatMap_len g B h n
    have := h n
    rw [List.range_succ, List.flatMap_append, List.length_append]
    simp only [List.flatMap_cons, List.flatMap_nil, List.append_nil]
    rw [Nat.add_mul, Nat.one_mul]
    omega
theorem rtr_len (w : Wa) (hn : w.os.length ≤ 5) (set : Nat) : ∀ (l : Nat) (bg : List Int), (rtr w set l bg).length ≤ 5 ^ l
  | 0, _ => by simp [rtr]
  | l + 1, bg => by
    have hp : 0 < 5 ^ l := Nat.pow_pos (by omega)
    unfold rtr
    split
    · refine Nat.le_trans (flatMap_len _ (5 ^ l) (fun o => ?_) _) ?_
      · split
        · exact rtr_len w hn set l _
        · simp
      · rw [Nat.pow_succ, Nat.mul_comm (5 ^ l) 5]
        exact Nat.mul_le_mul_right _ hn
    · have := rtr_len w hn set l (bg ++ [-1])
      rw [Nat.pow_succ]
      omega
theorem rtaken_ok (l : List Int) (n : Int) (hl : l.length < 1000) : ACall Tryz.prog 62 [.t (tI' l), .t (vi n)] [] (ret (vb (l.contains n))) := by
  refine ACall.walk k62 ?_
  unfold c62 tI'
  simp only [go_sem]
  refine awpL_loopK l.length (fun j s => (∀ x ∈ l.take j, x ≠ n) ∧ s = { env := [(5, .t (vi j)), (0, .t (.slice 1 (l.map vi))), (1, .t (vi n))], σ := [] })
    ⟨_, Sub.gc [] [5, 0, 1] rfl rfl, by simp, rfl⟩ ?_
  rintro j s hj ⟨hK, rfl⟩
  have hj0 : ((j : Int) < 0) = False := eq_false (by omega)
  have hwj : IntKind.i64.wrap ((j : Int) + 1) = ((j + 1 : Nat) : Int) := by rw [wrap_id (by omega) (by omega)]; omega
  cases g : decide ((j : Int) < l.length)
  · have hje : j = l.length := by have := of_decide_eq_false g; omega
    rw [hje, List.take_length] at hK
    have hc : l.contains n = false := by
      cases h : l.contains n
      · rfl
      · rw [List.contains_iff_mem] at h
        exact absurd rfl (hK n h)
    simp only [go_sem, Nat.reduceEqDiff, List.length_map, g]
    exact finL_ret [] ⟨rfl, rfl, rfl, rfl, _, rfl, ret_mk (by rw [hc])⟩
  have hjl : j < l.length := by have := of_decide_eq_true g; omega
  have hx : l[j]? = some l[j] := List.getElem?_eq_getElem hjl
  have tx : l.take (j + 1) = l.take j ++ [l[j]] := by rw [List.take_add_one, hx]; rfl
  have mx := List.getElem_mem hjl
  generalize l[j] = x at *
  cases h : x == n
  · have hne : x ≠ n := fun e => by rw [e] at h; simp at h
    simp only [go_sem, Nat.reduceEqDiff, List.length_map, g, List.getElem?_map, hx, Option.map_some, h, hwj]
    refine ⟨hjl, _, Sub.gc [] [5, 0, 1] rfl rfl, fun y hy => ?_, rfl⟩
    rw [tx] at hy
    rcases List.mem_append.1 hy with hy | hy
    · exact hK y hy
    · rw [List.mem_singleton] at hy; rw [hy]; exact hne
  · have he : x = n := by simpa using h
    have hc : l.contains n = true := by rw [List.contains_iff_mem, ← he]; exact mx
    simp only [go_sem, Nat.reduceEqDiff, List.length_map, g, List.getElem?_map, hx, Option.map_some, h]
    exact finL_ret [] ⟨rfl, rfl, rfl, rfl, _, rfl, ret_mk (by rw [hc])⟩

/-- What a call makes of the rows that are handed over. -/
def TrR (w : Wa) (set l : Nat) (bg : List Int) (out : List (List Int)) (o : Out) (σ' : List AO) : Prop := ∃ xs : List E, o = .ret (.loc 0 xs.length) ∧ σ' = [.row 1 xs, rowI bg] ∧ (xs = ((out ++ rtr w set l bg).map tI').map .t ∨ (l = 0 ∧ xs = ((out.map tI').map .t) ++ [.loc 1 bg.length]))
theorem rens_T (ρ : Nat → Nat) : ∀ l : List T, E.rens ρ (l.map .t) = l.map .t := fun l => by
  rw [E.rens_map, List.map_map]
  rfl
theorem rtr_at {w : Wa} {set l : Nat} {bg : List Int} {out : List (List Int)} (h : ACall Tryz.prog 69 [.t (tWa w), .t (vi set), .loc 1 bg.length, .loc 0 out.length] [rowR out, rowI bg] (TrR w set l bg out)) {p q : Nat} {σ : List AO} {R : Lz (Out → List AO → Prop)} (hq : σ[q]? = some (rowR out)) (hp : σ[p]? = some (rowI bg)) (hpq : q ≠ p)
    (hk : ∀ xs : List E, (xs = ((out ++ rtr w set l bg).map tI').map .t ∨ (l = 0 ∧ xs = ((out.map tI').map .t) ++ [.loc p bg.length])) → R.get (.ret (.loc q xs.length)) (σ.set q (.row 1 xs))) : @ACallL Tryz.prog 69 [.t (tWa w), .t (vi set), .loc p bg.length, .loc q out.length] σ R := by
  have hpl := (List.getElem?_eq_some_iff.1 hp).1
  have hql := (List.getElem?_eq_some_iff.1 hq).1
  have e0 : lendR [q, p] σ.length 0 = q := rfl
  have e1 : lendR [q, p] σ.length 1 = p := rfl
  have hbR : (rowI bg).ren (lendR [q, p] σ.length) = rowI bg := by
    show AO.row 1 (E.rens _ ((bg.map vi).map .t)) = _
    rw [rens_T]; (try rfl)
  have hoR : (rowR out).ren (lendR [q, p] σ.length) = rowR out := by
    show AO.row 1 (E.rens _ ((out.map tI').map .t)) = _
    rw [rens_T]; (try rfl)
  refine ACall.mono (ACall.lend [q, p] h (by simpa using hpq) (by simp; omega) rfl (fun i o ho => ?_) (args := [.t (tWa w), .t (vi set), .loc p bg.length, .loc q out.length]) (by simp [E.rens_map, E.ren, e0, e1])) ?_
  · match i, ho with
    | 0, ho => simp at ho; subst ho; rw [hoR]; exact hq
    | 1, ho => simp at ho; subst ho; rw [hbR]; exact hp
  · rintro o σ1 ⟨o0, σ0, ⟨xs, rfl, rfl, hx⟩, _, rfl, rfl⟩
    have hs : ∀ a : AO, (σ.set q a).set p (rowI bg) = σ.set q a := fun a => by
      apply List.ext_getElem?
      intro i
      by_cases hi : i = p
      · subst hi
        rw [List.getElem?_set_self (by simpa using hpl), List.getElem?_set_ne hpq, hp]
      · rw [List.getElem?_set_ne (fun e => hi e.symm)]
    have := hk (E.rens (lendR [q, p] σ.length) xs) (by
      rcases hx with rfl | ⟨h0, rfl⟩
      · exact .inl (rens_T _ _)
      · refine .inr ⟨h0, ?_⟩
        rw [E.rens_map, List.map_append, ← E.rens_map, rens_T]
        simp [E.ren, e1])
    have hlen : (E.rens (lendR [q, p] σ.length) xs).length = xs.length := by rw [E.rens_map, List.length_map]
    rw [hlen] at this
    simp only [List.map_cons, List.map_nil, AO.ren, lendB, Out.ren, E.ren, List.append_nil, e0]
    have e2 := hs (AO.row 1 (E.rens (lendR [q, p] σ.length) xs))
    unfold rowI at e2
    rw [rens_T, e2]
    exact this

theorem fits_at {w : Wa} {j : Nat} {f : Fi} (hf : w.fs[j]? = some f) {i : Nat} {o : Ow} (ho : w.os[i]? = some o) : (w.fits.getD j 0).testBit i = fitB o f := by
  unfold Wa.fits
  rw [List.getD_eq_getElem?_getD, List.getElem?_map, hf]
  show (fitN w.os f).testBit i = _
  rw [fitN_bit, fitP_at ho]
theorem gc_rowR {kp : List Nat} {σ : List AO} {n : Nat} {ys : List T} {xs : List E} (h : xs = ys.map .t ∨ ∃ (zs : List T) (p : Nat) (bs : List Int), xs = zs.map .t ++ [.loc p bs.length] ∧ pos? kp p = none ∧ σ[p]? = some (rowI bs) ∧ ys = zs ++ [tI' bs]) : xs.map (E.gc kp σ (n + 2)) = ys.map .t := by
  rcases h with rfl | ⟨zs, p, bs, rfl, h1, h2, rfl⟩
  · exact gc_row _
  · rw [List.map_append, gc_row, List.map_append]
    congr 1
    simp only [List.map_cons, List.map_nil]
    rw [gc_loc (n := n) h1 h2 (by rw [List.length_map])]
    rfl
set_option maxRecDepth 8000 in
set_option maxHeartbeats 8000000 in
theorem rtr_ok (w : Wa) (hw : w.OK) (set : Nat) (hs : set < 64) : ∀ (l : Nat) (bg : List Int) (out : List (List Int)), bg.length + l = w.fs.length → out.length + 5 ^ l ≤ 10000 → ACall Tryz.prog 69 [.t (tWa w), .t (vi set), .loc 1 bg.length, .loc 0 out.length] [rowR out, rowI bg] (TrR w set l bg out) := by
  intro l
  have hn5 := hw.no
  have hn4 := hw.nf
  induction l with
  | zero =>
    intro bg out hb ho
    refine ACall.walk k69 ?_
    have x1 : (out.length + 1 ≤ maxLen) = True := eq_true (by unfold maxLen; omega)
    have x2 : ((out.length + 1) * 24 ≤ 140737488355328) = True := eq_true (by omega)
    have hbE : ((bg.length : Int) == (w.fs.length : Int)) = true := beq_iff_eq.2 (by omega)
    unfold c69 tWa wa2 rowR rowI
    simp only [go_sem, Nat.reduceEqDiff, Nat.reduceAdd, Nat.reduceLT, List.length_map, hbE, x1, x2]
    refine finL_ret [0, 1] ⟨rfl, rfl, rfl, rfl, _, rfl, ((out.map tI').map .t) ++ [.loc 1 bg.length], ?_, ?_, .inr ⟨rfl, rfl⟩⟩
    · simp; rfl
    · unfold σgc
      simp only [List.map_cons, List.map_nil, List.getD_cons_zero, List.getD_cons_succ, AO.gc, gc_row, List.map_append]
      rfl
  | succ l ih =>
    intro bg out hb ho
    refine ACall.walk k69 ?_
    have hpw : 5 ^ (l + 1) = 5 ^ l * 5 := Nat.pow_succ _ _
    have hbE : ((bg.length : Int) == (w.fs.length : Int)) = false := beq_false_of_ne (by omega)
    have q1 := rHas_ok set bg.length (by omega) (by omega)
    have hin : ∀ (v : Int), (bg.map vi).map E.t ++ [E.t (vi v)] = ((bg ++ [v]).map vi).map E.t := fun v => by simp
    have hil : ∀ (v : Int), (bg ++ [v]).length = bg.length + 1 := fun v => by simp
    have y1 : (bg.length ≤ maxLen) = True := eq_true (by unfold maxLen; omega)
    have y2 : (bg.length * 8 ≤ 140737488355328) = True := eq_true (by omega)
    have y3 : (bg.length + 1 ≤ maxLen) = True := eq_true (by unfold maxLen; omega)
    have y4 : ((bg.length + 1) * 8 ≤ 140737488355328) = True := eq_true (by omega)
    unfold c69
    cases hbit : set.testBit bg.length
    · have hr : rtr w set (l + 1) bg = rtr w set l (bg ++ [-1]) := by
        show (if set.testBit bg.length then _ else _) = _
        rw [hbit]; rfl
      have ih' := ih (bg ++ [-1]) out (by simp; omega) (by omega)
      rw [hil] at ih'
      rw [hbit] at q1
      have hin' := hin (-1)
      unfold TrR
      rw [hr]
      have hap := fun {p q σ R} => @rtr_at w set l (bg ++ [-1]) out (by rw [hil]; exact ih') p q σ R
      rw [hil] at hap
      unfold rowR rowI
      unfold rowR rowI at hap
      unfold tWa wa2
      unfold tWa wa2 at hap
      simp only [go_sem, Nat.reduceEqDiff, Nat.reduceAdd, List.length_map, hbE]
      refine ACallL.quiet1 q1 rfl rfl rfl ?_
      simp only [go_sem, Nat.reduceEqDiff, Nat.reduceAdd, Bool.not_false]
      repeat' (first | refine AndL.mk ?_ ?_ | simp only [go_sem, Nat.reduceEqDiff, Nat.reduceAdd, Nat.reduceLT, Int.reduceNeg, List.length_map, y1, y2, y3, y4, hin'])
      all_goals
        first | refine hap (p := 3) (q := 0) rfl rfl (by decide) ?_ | refine hap (p := 4) (q := 0) rfl rfl (by decide) ?_
        intro xs hx
        have hxl : xs.length = ((out ++ rtr w set l (bg ++ [-1])).map tI').length := by
          rcases hx with rfl | ⟨h0, rfl⟩
          · simp
          · subst h0; simp [rtr]
        simp only [go_sem, Nat.reduceEqDiff, Nat.reduceAdd, Int.reduceNeg, List.set_cons_zero]
        refine finL_ret [0, 1] ⟨rfl, rfl, rfl, rfl, _, rfl, ((out ++ rtr w set l (bg ++ [-1])).map tI').map .t, ?_, ?_, .inl rfl⟩
        · rw [List.length_map, ← hxl]; rfl
        · unfold σgc
          simp only [List.map_cons, List.map_nil, List.getD_cons_zero, List.getD_cons_succ, AO.gc, gc_row]
          rw [gc_rowR (ys := (out ++ rtr w set l (bg ++ [-1])).map tI') (by
            rcases hx with rfl | ⟨h0, rfl⟩
            · exact .inl rfl
            · refine .inr ⟨out.map tI', _, bg ++ [-1], by rw [hil], by rfl, rfl, ?_⟩
              subst h0
              simp [rtr])]
    · have hr : rtr w set (l + 1) bg = (List.range w.os.length).flatMap fun o => if (w.fits.getD bg.length 0).testBit o && !bg.contains (o : Int) then rtr w set l (bg ++ [(o : Int)]) else [] := by
        show (if set.testBit bg.length then _ else _) = _
        rw [hbit]; rfl
      rw [hbit] at q1
      have hjl : bg.length < w.fs.length := by omega
      have hf : w.fs[bg.length]? = some w.fs[bg.length] := List.getElem?_eq_getElem hjl
      generalize w.fs[bg.length] = f at *
      unfold TrR
      rw [hr]
      have hFB : ∀ (o : Nat) (x : Ow), w.os[o]? = some x → (w.fits.getD bg.length 0).testBit o = fitB x f := fun o x hx => fits_at hf hx
      have qF := fun (o : Nat) (x : Ow) (hx : w.os[o]? = some x) => rFit_ok w hw (i := bg.length) (k := o) hf hx
      generalize w.fits.getD bg.length 0 = FT at *
      have hsplit : ∀ j, (List.range (j + 1)).flatMap (fun o => if FT.testBit o && !bg.contains (o : Int) then rtr w set l (bg ++ [(o : Int)]) else []) = (List.range j).flatMap (fun o => if FT.testBit o && !bg.contains (o : Int) then rtr w set l (bg ++ [(o : Int)]) else []) ++ if FT.testBit j && !bg.contains (j : Int) then rtr w set l (bg ++ [(j : Int)]) else [] := fun j => by
        rw [List.range_succ, List.flatMap_append]; simp
      have hbound : ∀ j, ((List.range j).flatMap (fun o => if FT.testBit o && !bg.contains (o : Int) then rtr w set l (bg ++ [(o : Int)]) else [])).length ≤ j * 5 ^ l := fun j => flatMap_len _ _ (fun o => by
        split
        · exact rtr_len w hn5 set l _
        · simp) j
      have qT := fun n : Int => rtaken_ok bg n (by omega)
      unfold tI' at qT
      unfold tWa wa2 at qF
      unfold tWa wa2
      unfold rowR rowI
      simp only [go_sem, Nat.reduceEqDiff, Nat.reduceAdd, List.length_map, hbE]
      refine ACallL.quiet1 q1 rfl rfl rfl ?_
      simp only [go_sem, Nat.reduceEqDiff, Bool.not_true]
      refine awpL_loopK w.os.length (fun j s => s = { env := [(10, .t (vi j)), (1, .t (vi set)), (2, .loc 1 bg.length), (3, .loc 0 (out ++ (List.range j).flatMap (fun o => if FT.testBit o && !bg.contains (o : Int) then rtr w set l (bg ++ [(o : Int)]) else [])).length), (4, .ptr 2 0), (9, .t (vi bg.length))], σ := [rowR (out ++ (List.range j).flatMap (fun o => if FT.testBit o && !bg.contains (o : Int) then rtr w set l (bg ++ [(o : Int)]) else [])), rowI bg, .cells [.t (.slice 4 (w.os.map tOw)), .t (.slice 5 (w.fs.map tFi))]] })
        ⟨_, Sub.gc [0, 1, 2] [10, 1, 2, 3, 4, 9] rfl rfl, ?_⟩ ?_
      · have e0 : out ++ (List.range 0).flatMap (fun o => if FT.testBit o && !bg.contains (o : Int) then rtr w set l (bg ++ [(o : Int)]) else []) = out := by simp
        rw [e0]
        exact St.gc_mk rfl (by unfold σgc; simp only [List.map_cons, List.map_nil, List.getD_cons_zero, List.getD_cons_succ, AO.gc, gc_row]; rfl) rfl rfl
      rintro j s hj rfl
      have hj0 : ((j : Int) < 0) = False := eq_false (by omega)
      have hwj : IntKind.i64.wrap ((j : Int) + 1) = ((j + 1 : Nat) : Int) := by rw [wrap_id (by omega) (by omega)]; omega
      cases g : decide ((j : Int) < w.os.length)
      · have hje : j = w.os.length := by have := of_decide_eq_false g; omega
        rw [hje] at g ⊢
        generalize out ++ (List.range w.os.length).flatMap (fun o => if FT.testBit o && !bg.contains (o : Int) then rtr w set l (bg ++ [(o : Int)]) else []) = P at *
        unfold rowR rowI
        simp only [go_sem, Nat.reduceEqDiff, Nat.reduceAdd, Nat.reduceLeDiff, List.length_map, g]
        refine finL_ret [0, 1] ⟨rfl, rfl, rfl, rfl, _, rfl, _, ?_, ?_, .inl rfl⟩
        · rw [List.length_map, List.length_map]; rfl
        · unfold σgc
          simp only [List.map_cons, List.map_nil, List.getD_cons_zero, List.getD_cons_succ, AO.gc, gc_row]
      have hjlt : j < w.os.length := by have := of_decide_eq_true g; omega
      have hx : w.os[j]? = some w.os[j] := List.getElem?_eq_getElem hjlt
      have hF := qF j _ hx
      rw [← hFB j _ hx] at hF
      have hbj := hbound j
      have hmul : j * 5 ^ l ≤ 4 * 5 ^ l := Nat.mul_le_mul_right _ (by omega)
      have ih' := ih (bg ++ [(j : Int)]) (out ++ (List.range j).flatMap (fun o => if FT.testBit o && !bg.contains (o : Int) then rtr w set l (bg ++ [(o : Int)]) else [])) (by simp; omega) (by rw [List.length_append]; omega)
      have hT := qT j
      have hin' := hin (j : Int)
      rw [hsplit j, ← List.append_assoc]
      generalize out ++ (List.range j).flatMap (fun o => if FT.testBit o && !bg.contains (o : Int) then rtr w set l (bg ++ [(o : Int)]) else []) = P at *
      have hap := fun {p q σ R} => @rtr_at w set l (bg ++ [(j : Int)]) P ih' p q σ R
      rw [hil] at hap
      unfold rowR rowI at hap
      unfold tWa wa2 at hap
      unfold rowR rowI
      simp only [go_sem, Nat.reduceEqDiff, Nat.reduceAdd, Nat.reduceLeDiff, List.length_map, g]
      refine ACallL.quiet1 hF rfl rfl rfl ?_
      cases hb1 : FT.testBit j
      · have e0 : P ++ (if (false && !bg.contains (j : Int)) then rtr w set l (bg ++ [(j : Int)]) else []) = P := by simp
        rw [e0]
        simp only [go_sem, Nat.reduceEqDiff, undef, hwj]
        exact ⟨hjlt, _, Sub.gc [0, 1, 2] [10, 1, 2, 3, 4, 9] rfl rfl, St.gc_mk rfl (by unfold σgc; simp only [List.map_cons, List.map_nil, List.getD_cons_zero, List.getD_cons_succ, AO.gc, gc_row]; rfl) rfl rfl⟩
      simp only [go_sem, Nat.reduceEqDiff, beq_self_eq_true]
      refine ACallL.quiet1 hT rfl (by
        simp only [List.map_cons, List.map_nil]
        rw [gc_loc (n := 10) (id := 1) (xs := bg.map vi) rfl rfl (by simp)]
        rfl) rfl ?_
      cases hb2 : bg.contains (j : Int)
      rotate_left
      · have e0 : P ++ (if (true && !true) then rtr w set l (bg ++ [(j : Int)]) else []) = P := by simp
        rw [e0]
        simp only [go_sem, Nat.reduceEqDiff, Bool.not_true, beq_self_eq_true, hwj]
        exact ⟨hjlt, _, Sub.gc [0, 1, 2] [10, 1, 2, 3, 4, 9] rfl rfl, St.gc_mk rfl (by unfold σgc; simp only [List.map_cons, List.map_nil, List.getD_cons_zero, List.getD_cons_succ, AO.gc, gc_row]; rfl) rfl rfl⟩
      have e0 : P ++ (if (true && !false) then rtr w set l (bg ++ [(j : Int)]) else []) = P ++ rtr w set l (bg ++ [(j : Int)]) := by simp
      rw [e0]
      simp only [go_sem, Nat.reduceEqDiff, Nat.reduceAdd, Bool.not_false, beq_self_eq_true]
      repeat' (first | refine AndL.mk ?_ ?_ | simp only [go_sem, Nat.reduceEqDiff, Nat.reduceAdd, Nat.reduceLT, List.length_map, y1, y2, y3, y4, hin'])
      all_goals
        first | refine hap (p := 3) (q := 0) rfl rfl (by decide) ?_ | refine hap (p := 4) (q := 0) rfl rfl (by decide) ?_
        intro xs hx
        have hxl : xs.length = (P ++ rtr w set l (bg ++ [(j : Int)])).length := by
          rcases hx with rfl | ⟨h0, rfl⟩
          · simp
          · subst h0; simp [rtr]
        simp only [go_sem, Nat.reduceEqDiff, List.set_cons_zero, hwj, hxl]
        refine ⟨hjlt, _, Sub.gc [0, 1, 2] [10, 1, 2, 3, 4, 9] rfl rfl, St.gc_mk rfl ?_ rfl rfl⟩
        unfold σgc
        simp only [List.map_cons, List.map_nil, List.getD_cons_zero, List.getD_cons_succ, AO.gc, gc_row]
        rw [gc_rowR (ys := (P ++ rtr w set l (bg ++ [(j : Int)])).map tI') (by
          rcases hx with rfl | ⟨h0, rfl⟩
          · exact .inl rfl
          · refine .inr ⟨P.map tI', _, bg ++ [(j : Int)], by rw [hil], by rfl, rfl, ?_⟩
            subst h0
            simp [rtr])]
        rfl
end Go.Proofs.YtnmmhkkmejbckaaGreatDoor
