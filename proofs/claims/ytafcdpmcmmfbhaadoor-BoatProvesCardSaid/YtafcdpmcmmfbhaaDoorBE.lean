/- Proved here: laws that the statements need (BoQ, BoR). No conditions but those that each law states. -/
import Derived.Test.YtafcdpmcmmfbhaaDoorBD
import Derived.Test.YtafcdpmcmmfbhaaDoorFM

set_option linter.unusedSimpArgs false
set_option linter.unusedVariables false

/- Package boat: Met. -/
namespace Go.Proofs.YtafcdpmcmmfbhaaDoor
open Go Go.Ab

def metR (b : Bo) (one two : Nat) : Option Nat := (List.range (b.L + 1)).find? fun m => !((canAt b (plainQ b one) m &&& canAt b (plainQ b two) m) == 0)
def specMet (b : Bo) (one two : Int) : Int × Int := if b.ok then (if b.isBoat one && b.isBoat two then (if canQ b (plainQ b one.toNat) && canQ b (plainQ b two.toNat) then (match metR b one.toNat two.toNat with | some m => ((m : Nat), 0) | none => (0, 4)) else (0, 10)) else (0, 2)) else (0, 1)

def MeMid (b : Bo) (one two : Nat) (SB : Int × Int) (st : St) : Prop := SB = (match metR b one two with | some m => (((m : Nat) : Int), 0) | none => (0, 4)) ∧ b.OK ∧ lk st.env 6 = .ptr 1 0 ∧ lk st.env 7 = .ptr 2 0 ∧ lk st.env 8 = waE b 3 ∧ lk st.env 9 = .ptr 4 0 ∧ lk st.env 10 = .ptr 5 0 ∧
  (∃ ks xs clk a, MapOK b ks xs ∧ st.σ = [a, .cells [.t (vi 0)], .cells [.t (vi 0)], .map shQ ks xs clk, .cells (((logQ b (plainQ b one)).map fun p : Nat => vu p).map .t), .cells (((logQ b (plainQ b two)).map fun p : Nat => vu p).map .t)]) ∧ st.df = [.call 48 [.ptr 2 0]] ∧ st.k = 0

set_option maxRecDepth 8000 in
set_option maxHeartbeats 8000000 in
theorem Met_ok (b : Bo) (hl : Lens b) (one two : Int) : ACall Tryd.prog 24 [.t (.agg (bo5 b)), .t (vi one), .t (vi two)] [] (res (oneE (specMet b one two).1 (specMet b one two).2)) := by
  refine ACall.walkDM k24 ?_
  have h50 := isBoat_ok b hl one
  have h51 := isBoat_ok b hl two
  have hop := fun is (σ : List AO) (R : Lz (Out → List AO → Prop)) h1 h2 h3 => openL (σ := σ) (R := R) b is hl h1 h2 h3
  unfold c24
  unfold bo5 at h50 h51 hop ⊢
  have good : ∀ (hok : b.ok = true) (hB : b.isBoat one = true) (hM : b.isBoat two = true), specMet b one two = if canQ b (plainQ b one.toNat) && canQ b (plainQ b two.toNat) then (match metR b one.toNat two.toNat with | some m => (((m : Nat) : Int), (0 : Int)) | none => ((0 : Int), (4 : Int))) else ((0 : Int), (10 : Int)) := fun hok hB hM => by
    unfold specMet
    rw [hok, hB, hM]; rfl
  have e1 : b.ok = false → specMet b one two = (0, 1) := fun h => by unfold specMet; rw [h]; rfl
  have e2 : b.ok = true → (b.isBoat one && b.isBoat two) = false → specMet b one two = (0, 2) := fun h h2 => by unfold specMet; rw [h, h2]; rfl
  generalize specMet b one two = SB at *
  refine awpL_chop 4 (c1 := ?a1) (c2 := ?a2) (fun st => MeMid b one.toNat two.toNat SB st) ?hc ?_ ?_
  case hc => simp only [chop]; rfl
  · simp only [go_sem, Nat.reduceEqDiff, Nat.reduceAdd]
    refine ACallL.quiet1 h50 rfl rfl rfl ?_
    cases hB : b.isBoat one
    · simp only [go_sem, Nat.reduceEqDiff, Nat.reduceAdd, undef, undef]
      refine hop _ _ _ (fun hok => ?_) (fun hok _ => ?_) (fun hok h => by cases h)
      · rw [e1 hok]
        simp only [go_sem, Nat.reduceEqDiff]
        refine finDML_pan 0 rfl rfl ((answer_pan rfl).mono fun σ' h => ?_)
        subst h
        exact ⟨_, rfl, [], rfl, rfl, res_mk rfl⟩
      · rw [e2 hok (by rw [hB]; rfl)]
        simp only [go_sem, Nat.reduceEqDiff]
        refine finDML_pan 0 rfl rfl ((answer_pan rfl).mono fun σ' h => ?_)
        subst h
        exact ⟨_, rfl, [], rfl, rfl, res_mk rfl⟩
    simp only [go_sem, Nat.reduceEqDiff, Nat.reduceAdd, beq_self_eq_true]
    refine ACallL.quiet1 h51 rfl rfl rfl ?_
    simp only [go_sem, Nat.reduceEqDiff, Nat.reduceAdd]
    refine hop _ _ _ (fun hok => ?_) (fun hok hM => ?_) (fun hok hM => ?_)
    · rw [e1 hok]
      simp only [go_sem, Nat.reduceEqDiff]
      refine finDML_pan 0 rfl rfl ((answer_pan rfl).mono fun σ' h => ?_)
      subst h
      exact ⟨_, rfl, [], rfl, rfl, res_mk rfl⟩
    · rw [e2 hok (by rw [hB, hM]; rfl)]
      simp only [go_sem, Nat.reduceEqDiff]
      refine finDML_pan 0 rfl rfl ((answer_pan rfl).mono fun σ' h => ?_)
      subst h
      exact ⟨_, rfl, [], rfl, rfl, res_mk rfl⟩
    have hb := (b.ok_iff).1 hok
    obtain ⟨b1, b2⟩ := isBoat_iff.1 hB
    obtain ⟨m1, m2⟩ := isBoat_iff.1 hM
    have hs := good hok hB hM
    obtain ⟨A, rfl⟩ : ∃ n : Nat, one = n := ⟨one.toNat, by omega⟩
    obtain ⟨B, rfl⟩ : ∃ n : Nat, two = n := ⟨two.toNat, by omega⟩
    rw [Int.toNat_natCast, Int.toNat_natCast] at hs
    have h52 := fun {ks : List (Nat × List Int)} {xs : List T} {clk : Nat} (M : MapOK b ks xs) => told_ok b hb A (by omega) M (clk := clk)
    have h52' := fun {ks : List (Nat × List Int)} {xs : List T} {clk : Nat} (M : MapOK b ks xs) => told_ok b hb B (by omega) M (clk := clk)
    have hlen := logQ_len hb (plainQ b A)
    have hlen' := logQ_len hb (plainQ b B)
    unfold toldO at h52 h52'
    clear good e1 e2
    generalize hc1 : canQ b (plainQ b A) = c1 at *
    generalize hc2 : canQ b (plainQ b B) = c2 at *
    simp only [go_sem, Nat.reduceEqDiff, Nat.reduceAdd, undef, beq_self_eq_true, undef]
    refine lend1 (m := 3) (h52 (MapOK.nil b) (clk := 0)) rfl rfl rfl ?_
    rintro o a ⟨rfl, ks2, xs2, clk2, M2, rfl⟩
    cases c1
    · rw [hs]
      simp only [go_sem, Nat.reduceEqDiff, Out.ren, AO.ren]
      refine finDML_pan 0 rfl rfl ((answer_pan rfl).mono fun σ' h => ?_)
      subst h
      exact ⟨_, rfl, [], rfl, rfl, res_mk rfl⟩
    simp only [go_sem, Nat.reduceEqDiff, Out.ren, E.ren, AO.ren]
    refine lend1 (m := 3) (h52' M2 (clk := clk2)) rfl rfl rfl ?_
    rintro o a ⟨rfl, ks3, xs3, clk3, M3, rfl⟩
    cases c2
    · rw [hs]
      simp only [go_sem, Nat.reduceEqDiff, Out.ren, AO.ren]
      refine finDML_pan 0 rfl rfl ((answer_pan rfl).mono fun σ' h => ?_)
      subst h
      exact ⟨_, rfl, [], rfl, rfl, res_mk rfl⟩
    have hdr : List.drop 13 (List.map E.t (List.map (fun p : Nat => vu p) (logQ b (plainQ b A)))) = [] := List.drop_eq_nil_of_le (by simp [hlen])
    have hdr' : List.drop 13 (List.map E.t (List.map (fun p : Nat => vu p) (logQ b (plainQ b B)))) = [] := List.drop_eq_nil_of_le (by simp [hlen'])
    simp only [go_sem, Nat.reduceEqDiff, Nat.reduceAdd, undef, undef, Out.ren, E.ren, AO.ren, List.length_map, hlen, hlen']
    refine ⟨hs, hb, rfl, rfl, rfl, rfl, rfl, ⟨ks3, xs3, clk3, _, M3, rfl⟩, rfl, rfl⟩
  generalize one.toNat = A at *
  generalize two.toNat = B at *
  rintro ⟨env, σ, df, k⟩ ⟨hs, hb, q6, q7, q8, q9, q10, ⟨ks, xs, clk, a, M, hσ⟩, hdf, hk⟩
  simp only at q6 q7 q8 q9 q10 hσ hdf hk
  subst hσ hdf hk
  clear good e1 e2
  subst hs
  have hgen := minutes_gen b hb .hole false
  have hlA := logQ_len hb (plainQ b A)
  have hlB := logQ_len hb (plainQ b B)
  have hatA := fun {m : Nat} (h : m < 13) => log_at hb (plainQ b A) h
  have hatB := fun {m : Nat} (h : m < 13) => log_at hb (plainQ b B) h
  have hltA := fun m => canAt_lt hb (plainQ b A) m
  have hltB := fun m => canAt_lt hb (plainQ b B) m
  have hmr : metR b A B = (List.range (b.L + 1)).find? fun m => !((canAt b (plainQ b A) m &&& canAt b (plainQ b B) m) == 0) := rfl
  unfold canAt at hltA hltB hmr
  generalize logQ b (plainQ b A) = LA at *
  generalize logQ b (plainQ b B) = LB at *
  generalize metR b A B = r at *
  simp only [go_sem, q8]
  refine lend1 (m := 3) ((minutes_ok b false ks xs clk).mono fun o σ' h => (⟨_, ⟨h.1, rfl⟩, h.2⟩ : ∃ a', (o = _ ∧ a' = AO.map shQ ks xs clk) ∧ σ' = [a'])) rfl (by simp [E.rens]; rfl) (by simp [E.rens, E.ren]; rfl) ?_
  rintro o a' ⟨rfl, rfl⟩
  simp only [go_sem, Nat.reduceAdd, Out.ren, E.ren, E.rens, AO.ren]
  refine awpL_gcpS (Sub.wk 29) ?_
  simp only [go_sem, Nat.reduceEqDiff, E.wk, E.wks]
  refine awpL_rangeS (f := 87) (fs := []) (cs := [.ptr (.agg [waT b .hole]) 0, .ptr (.agg [vb false]) 0]) (minL b false) (fun i σ => (∀ m < i, LA.getD m 0 &&& LB.getD m 0 = 0) ∧ σ = [.cells [.t (vi 0)], .cells [.t (vi 0)]]) (fun e σ => e = .ret ∧ ∃ m : Nat, r = some m ∧ σ = [.cells [.t (vi m)], .cells [.t (vi 0)]]) [1, 2] [6, 7, 9, 10]
    [(6, .ptr 0 0), (7, .ptr 1 0), (9, .t (.ptr (tLog LA) 0)), (10, .t (.ptr (tLog LB) 0))] [.call 48 [.ptr 1 0]] (by
      show [(6, E.gc _ _ 12 (lk _ 6)), (7, E.gc _ _ 12 (lk _ 7)), (9, E.gc _ _ 12 (lk _ 9)), (10, E.gc _ _ 12 (lk _ 10))] = _
      simp only [lk, Nat.reduceEqDiff, reduceIte, q6, q7, q9, q10]
      rw [gc_ptr (id := 4) (n := 10) (ts := LA.map fun p : Nat => vu p) rfl rfl, gc_ptr (id := 5) (n := 10) (ts := LB.map fun p : Nat => vu p) rfl rfl]
      rfl) rfl rfl rfl hgen rfl rfl ⟨fun m hm => by omega, rfl⟩ ?_ ?_ ?_
  · rintro lp i v σ hv ⟨hno, rfl⟩
    have hil : i < b.L + 1 := by have := (List.getElem?_eq_some_iff.1 hv).1; rw [minL_len] at this; exact this
    rw [minL_at b false hil] at hv
    cases hv
    have hL := hb.L.1
    have hmi : minN b false i = i := rfl
    rw [hmi]
    have ha := hatA (m := i) (by omega)
    have hb' := hatB (m := i) (by omega)
    have za : LA.getD i 0 < 281474976710656 := hltA i
    have zb : LB.getD i 0 < 281474976710656 := hltB i
    have o1 := ubits_and (a := LA.getD i 0) (b := LB.getD i 0) (by omega) (by omega)
    have hn0 := int_ne0 (LA.getD i 0 &&& LB.getD i 0)
    have hfind : LA.getD i 0 &&& LB.getD i 0 ≠ 0 → r = some i := fun h => by
      rw [hmr, List.find?_range_eq_some]
      refine ⟨by simpa using h, List.mem_range.2 hil, fun j hj => ?_⟩
      rw [hno j hj]; rfl
    have hi13 : (i : Int) < 13 := by omega
    simp only [T.ofV, go_sem, Nat.reduceEqDiff, Nat.reduceAdd, List.getElem?_map, ha, hb', Option.map_some, Nat.mul_one, hi13, o1, hn0]
    cases hz : (LA.getD i 0 &&& LB.getD i 0 == 0)
    · simp only [go_sem, Nat.reduceEqDiff, Nat.reduceAdd, Bool.not_false, undef, undef]
      exact ⟨[0, 1], rfl, rfl, i, hfind (by simpa using hz), rfl⟩
    · simp only [go_sem, Nat.reduceAdd, Bool.not_true]
      refine ⟨[0, 1], rfl, rfl, fun m hm => ?_, rfl⟩
      by_cases c : m < i
      · exact hno m c
      · rw [show m = i by omega]; exact eq_of_beq hz
  · rintro σ ⟨hno, rfl⟩
    rw [minL_len] at hno
    have hrn : r = none := by
      rw [hmr, List.find?_eq_none]
      intro m hm
      rw [hno m (List.mem_range.1 hm)]; simp
    subst hrn
    simp only [go_sem, Nat.reduceEqDiff, undef, undef]
    refine finDML_ret 1 rfl rfl (answer_none.mono fun σ' h => ?_)
    subst h
    exact ⟨_, rfl, [], rfl, rfl, res_mk rfl⟩
  · rintro e σ ⟨rfl, m, hrm, rfl⟩
    subst hrm
    refine finDML_ret 1 rfl rfl (answer_none.mono fun σ' h => ?_)
    subst h
    exact ⟨_, rfl, [], rfl, rfl, res_mk rfl⟩
end Go.Proofs.YtafcdpmcmmfbhaaDoor

/- Package boat: Who. -/
namespace Go.Proofs.YtafcdpmcmmfbhaaDoor
open Go Go.Ab

abbrev fnT (f : Nat) : T := .fn (.func f) [] []
abbrev box1 (x : T) : T := .ptr (.agg [x]) 0
def hasB (b : Bo) (m p k : Nat) : Bool := (canAt b (plainQ b k) m).testBit p
def aloneB (b : Bo) (m p k : Nat) : Bool := hasB b m p k && decide (size (canAt b (plainQ b k) m) = 1)
def canW (b : Bo) (m p j : Nat) : Nat := maskOf (hasB b m p) j
def sureW (b : Bo) (m p j : Nat) : Nat := maskOf (aloneB b m p) j
abbrev seeArgs (b : Bo) (m p : Nat) : List E := [.vp [waE b 1] 0, .t (box1 (vi m)), .t (box1 (fnT 64)), .t (box1 (vi p)), .ptr 2 0, .t (box1 (fnT 65)), .ptr 3 0]

set_option maxRecDepth 8000 in
set_option maxHeartbeats 8000000 in
theorem see_ok (b : Bo) (hb : b.OK) (m p j : Nat) (hm : m ≤ b.L) (hj : j < b.seen.length) (x : T) {ks : List (Nat × List Int)} {xs : List T} {clk : Nat} (M : MapOK b ks xs) :
    ACall Tryd.prog 66 (.t (vi j) :: seeArgs b m p) [.cells [.t x], .map shQ ks xs clk, .cells [.t (vi (canW b m p j : Nat))], .cells [.t (vi (sureW b m p j : Nat))]]
      (fun o σ' => ∃ ks xs clk, MapOK b ks xs ∧ if canQ b (plainQ b j) then o = .ret (.tup []) ∧ σ' = [.cells [.t x], .map shQ ks xs clk, .cells [.t (vi (canW b m p (j + 1) : Nat))], .cells [.t (vi (sureW b m p (j + 1) : Nat))]] else o = .pan (rfs 10) ∧ ∃ c d, σ' = [.cells [.t x], .map shQ ks xs clk, c, d]) := by
  refine ACall.walk k66 ?_
  have h52 := told_ok b hb j hj M (clk := clk)
  have hlen := logQ_len hb (plainQ b j)
  have hat := log_at hb (plainQ b j) (m := m) (by have := hb.L.1; omega)
  have hlt := canAt_lt hb (plainQ b j) m
  have h4 := hb.num
  have s1 : canW b m p (j + 1) = if hasB b m p j then canW b m p j ||| 2 ^ j else canW b m p j := rfl
  have s2 : sureW b m p (j + 1) = if aloneB b m p j then sureW b m p j ||| 2 ^ j else sureW b m p j := rfl
  have b1 : canW b m p j < 2 ^ j := maskOf_lt _ _
  have b2 : sureW b m p j < 2 ^ j := maskOf_lt _ _
  have hp : 2 ^ j ≤ 8 := Nat.pow_le_pow_right (n := 2) (j := 3) (by decide) (by omega)
  have o1 := bits_or (a := canW b m p j) (b := 2 ^ j) (by omega) (by omega)
  have o2 := bits_or (a := sureW b m p j) (b := 2 ^ j) (by omega) (by omega)
  have sl := shl_one (i := j) (by omega)
  have hjn : ((j : Int) < 0) = False := by simp
  have hh : hasB b m p j = (canAt b (plainQ b j) m).testBit p := rfl
  have ha : aloneB b m p j = (hasB b m p j && decide (size (canAt b (plainQ b j) m) = 1)) := rfl
  have hm13 : (m : Int) < 13 := by have := hb.L.1; omega
  unfold toldO at h52
  unfold canAt at hlt hh ha
  generalize canQ b (plainQ b j) = c at *
  generalize logQ b (plainQ b j) = LQ at *
  generalize LQ.getD m 0 = z at *
  have hz : z < 281474976710656 := hlt
  have h64 := has_ok z p (by omega)
  have h65 := size_ok z hlt
  rw [← hh] at h64
  generalize canW b m p (j + 1) = C1 at *
  generalize sureW b m p (j + 1) = S1 at *
  generalize canW b m p j = C0 at *
  generalize sureW b m p j = S0 at *
  generalize hasB b m p j = B1 at *
  generalize aloneB b m p j = B2 at *
  have hsz : (((size z : Nat) : Int) == 1) = decide (size z = 1) := by rw [Bool.eq_iff_iff, beq_iff_eq, decide_eq_true_eq]; omega
  generalize decide (size z = 1) = B3 at *
  generalize hsv : ((size z : Nat) : Int) = sv at *
  unfold c66
  simp only [go_sem, Nat.reduceEqDiff, Nat.reduceAdd]
  refine lend1 (m := 1) h52 rfl rfl rfl ?_
  rintro o a ⟨rfl, ks2, xs2, clk2, M2, rfl⟩
  cases c
  · simp only [go_sem, Nat.reduceAdd, Out.ren, AO.ren]
    exact finL_pan [0, 1, 2, 3] ⟨rfl, rfl, rfl, rfl, ks2, xs2, clk2, M2, rfl, _, _, rfl⟩
  simp only [go_sem, Nat.reduceEqDiff, Nat.reduceLeDiff, Out.ren, E.ren, AO.ren, List.length_map, hlen, List.getElem?_map, hat, Option.map_some, hm13, Nat.mul_one]
  refine ACallL.quiet1 h64 rfl rfl rfl ?_
  cases B1
  · rw [Bool.false_and] at ha
    subst ha
    simp only [Bool.false_eq_true, if_false] at s1 s2
    subst s1 s2
    simp only [go_sem, Nat.reduceEqDiff, Nat.reduceAdd]
    exact finL_ret [0, 1, 2, 3] ⟨rfl, rfl, rfl, rfl, _, rfl, ks2, xs2, clk2, M2, rfl, rfl⟩
  rw [Bool.true_and] at ha
  subst ha
  simp only [if_true] at s1
  subst s1
  simp only [go_sem, Nat.reduceEqDiff, undef, undef, sl, o1, hjn]
  refine ACallL.quiet1 h65 rfl rfl rfl ?_
  simp only [go_sem, Nat.reduceEqDiff, hsz]
  cases B2
  · simp only [Bool.false_eq_true, if_false] at s2
    subst s2
    simp only [go_sem, Nat.reduceAdd]
    exact finL_ret [0, 1, 2, 3] ⟨rfl, rfl, rfl, rfl, _, rfl, ks2, xs2, clk2, M2, rfl, rfl⟩
  · simp only [if_true] at s2
    subst s2
    simp only [go_sem, Nat.reduceEqDiff, Nat.reduceAdd, undef, undef, sl, o2, hjn]
    exact finL_ret [0, 1, 2, 3] ⟨rfl, rfl, rfl, rfl, _, rfl, ks2, xs2, clk2, M2, rfl, rfl⟩

def allCan (b : Bo) : Bool := (List.range b.seen.length).all fun k => canQ b (plainQ b k)
def specWho (b : Bo) (m p : Int) : Int × Int × Int := if b.ok then (if b.isMinute m && wI p 0 (b.wide * b.deep - 1) then (if allCan b then ((sureW b m.toNat p.toNat b.seen.length : Nat), (canW b m.toNat p.toNat b.seen.length : Nat), 0) else (0, 0, 10)) else (0, 0, 2)) else (0, 0, 1)
def WhMid (b : Bo) (m p : Nat) (st : St) : Prop := lk st.env 6 = .t (vi 0) ∧ lk st.env 7 = .t (vi 0) ∧ lk st.env 3 = .t (.ptr (.agg (bo5 b)) 0) ∧ lk st.env 8 = .ptr 0 0 ∧ lk st.env 12 = .ptr 3 0 ∧ lk st.env 13 = .ptr 2 0 ∧ True
set_option maxRecDepth 8000 in
set_option maxHeartbeats 8000000 in
theorem Who_ok (b : Bo) (hl : Lens b) (m p : Int) : ACall Tryd.prog 26 [.t (.agg (bo5 b)), .t (vi m), .t (vi p)] [] (res (twoE (specWho b m p).1 (specWho b m p).2.1 (specWho b m p).2.2)) := by
  refine ACall.walkD k26 ?_
  have h51 := isMinute_ok b m
  have h58 := fun X => within_ok p 0 X
  have hop := fun is (σ : List AO) (R : Lz (Out → List AO → Prop)) h1 h2 h3 => openL (σ := σ) (R := R) b is hl h1 h2 h3
  unfold c26
  unfold bo5 at h51 hop ⊢
  have wX : b.ok = true → IntKind.i64.wrap (IntKind.i64.wrap (b.wide * b.deep) - 1) = b.wide * b.deep - 1 := fun hok => by
    have hb := (b.ok_iff).1 hok
    obtain ⟨n1, n2, n3⟩ := hb.N
    rw [n3, wrap_id (n := (b.N : Int)) (by omega) (by omega), wrap_id (by omega) (by omega)]
  have good : ∀ (hok : b.ok = true) (hB : b.isMinute m = true) (hM : wI p 0 (b.wide * b.deep - 1) = true), specWho b m p = if allCan b then (((sureW b m.toNat p.toNat b.seen.length : Nat) : Int), ((canW b m.toNat p.toNat b.seen.length : Nat) : Int), (0 : Int)) else ((0 : Int), (0 : Int), (10 : Int)) := fun hok hB hM => by
    unfold specWho
    rw [hok, hB, hM]; rfl
  have e1 : b.ok = false → specWho b m p = (0, 0, 1) := fun h => by unfold specWho; rw [h]; rfl
  have e2 : b.ok = true → (b.isMinute m && wI p 0 (b.wide * b.deep - 1)) = false → specWho b m p = (0, 0, 2) := fun h h2 => by unfold specWho; rw [h, h2]; rfl
  generalize specWho b m p = SB at *
  generalize hXe : IntKind.i64.wrap (IntKind.i64.wrap (b.wide * b.deep) - 1) = X at *
  cases hB : b.isMinute m
  · rw [hB] at h51
    simp only [go_sem, Nat.reduceEqDiff, Nat.reduceAdd]
    repeat' (first | refine AndL.mk ?_ ?_ | refine ACallL.quiet1 h51 rfl rfl rfl ?_ | simp only [go_sem, Nat.reduceEqDiff, Nat.reduceAdd, undef, undef])
    all_goals
      refine hop _ _ _ (fun hok => ?_) (fun hok _ => ?_) (fun hok h => by cases h)
      · rw [e1 hok]
        simp only [go_sem, Nat.reduceEqDiff]
        refine finDL_pan rfl rfl ((answer_pan rfl).mono fun σ' h => ?_)
        subst h
        exact ⟨_, rfl, [], rfl, rfl, res_mk rfl⟩
      · rw [e2 hok (by rw [hB]; rfl)]
        simp only [go_sem, Nat.reduceEqDiff]
        refine finDL_pan rfl rfl ((answer_pan rfl).mono fun σ' h => ?_)
        subst h
        exact ⟨_, rfl, [], rfl, rfl, res_mk rfl⟩
  rw [hB] at h51
  simp only [go_sem, Nat.reduceEqDiff, Nat.reduceAdd]
  repeat' (first | refine AndL.mk ?_ ?_ | refine ACallL.quiet1 h51 rfl rfl rfl ?_ | refine ACallL.quiet1 (h58 X) rfl rfl rfl ?_ | simp only [go_sem, Nat.reduceEqDiff, Nat.reduceAdd, Nat.reduceLeDiff, undef, beq_self_eq_true, undef, hXe])
  all_goals
    refine hop _ _ _ (fun hok => ?_) (fun hok hM => ?_) (fun hok hM => ?_)
    · rw [e1 hok]
      simp only [go_sem, Nat.reduceEqDiff]
      refine finDL_pan rfl rfl ((answer_pan rfl).mono fun σ' h => ?_)
      subst h
      exact ⟨_, rfl, [], rfl, rfl, res_mk rfl⟩
    · rw [wX hok] at hM
      rw [e2 hok (by rw [hB, hM]; rfl)]
      simp only [go_sem, Nat.reduceEqDiff]
      refine finDL_pan rfl rfl ((answer_pan rfl).mono fun σ' h => ?_)
      subst h
      exact ⟨_, rfl, [], rfl, rfl, res_mk rfl⟩
    rw [wX hok] at hM
    have hb := (b.ok_iff).1 hok
    obtain ⟨m1, m2⟩ := isMinute_iff.1 hB
    obtain ⟨p1, p2⟩ := wI_iff.1 hM
    have hs := good hok hB hM
    clear good e1 e2
    subst hs
    obtain ⟨M, rfl⟩ : ∃ n : Nat, m = n := ⟨m.toNat, by omega⟩
    obtain ⟨P, rfl⟩ : ∃ n : Nat, p = n := ⟨p.toNat, by omega⟩
    rw [Int.toNat_natCast, Int.toNat_natCast]
    have hml : M ≤ b.L := by have := hb.L; omega
    have hsee := fun j hj x {ks : List (Nat × List Int)} {xs : List T} {clk : Nat} (Mo : MapOK b ks xs) => see_ok b hb M P j hml hj x Mo (clk := clk)
    simp only [go_sem, Nat.reduceEqDiff, Nat.reduceAdd, Nat.reduceLeDiff, undef, beq_self_eq_true, undef, List.length_map]
    have hn := hb.num
    first
    | refine awpL_for (i := 35) (L := 34) b.seen.length (fun j st => (∀ k < j, canQ b (plainQ b k) = true) ∧ ∃ ks xs clk, MapOK b ks xs ∧ st = { env := [(35, .t (vi j)), (34, .t (vi b.seen.length)), (14, .fn (.func 66) [] (seeArgs b M P)), (8, .ptr 0 0), (12, .ptr 3 0), (13, .ptr 2 0), (6, .t (vi 0)), (7, .t (vi 0))], σ := [.cells [.t (vi 0)], .map shQ ks xs clk, .cells [.t (vi (canW b M P j : Nat))], .cells [.t (vi (sureW b M P j : Nat))]], df := [.call 48 [.ptr 0 0]] }) ?_ ⟨_, Sub.gc [3, 4, 9, 8] [35, 34, 14, 8, 12, 13, 6, 7] rfl rfl, by simp, [], [], 0, MapOK.nil b, rfl⟩ ?_ ?_
    | refine awpL_for (i := 35) (L := 34) b.seen.length (fun j st => (∀ k < j, canQ b (plainQ b k) = true) ∧ ∃ ks xs clk, MapOK b ks xs ∧ st = { env := [(35, .t (vi j)), (34, .t (vi b.seen.length)), (14, .fn (.func 66) [] (seeArgs b M P)), (8, .ptr 0 0), (12, .ptr 3 0), (13, .ptr 2 0), (6, .t (vi 0)), (7, .t (vi 0))], σ := [.cells [.t (vi 0)], .map shQ ks xs clk, .cells [.t (vi (canW b M P j : Nat))], .cells [.t (vi (sureW b M P j : Nat))]], df := [.call 48 [.ptr 0 0]] }) ?_ ⟨_, Sub.gc [3, 5, 9, 8] [35, 34, 14, 8, 12, 13, 6, 7] rfl rfl, by simp, [], [], 0, MapOK.nil b, rfl⟩ ?_ ?_
    · rintro k st ⟨_, _, _, _, _, rfl⟩; exact ⟨rfl, rfl⟩
    · rintro j st hj ⟨hall, ks, xs, clk, Mo, rfl⟩
      have hwj : IntKind.i64.wrap ((j : Int) + 1) = ((j + 1 : Nat) : Int) := by rw [wrap_id (by omega) (by omega)]; omega
      simp only [go_sem, Nat.reduceEqDiff]
      refine ACallL.of (hsee j hj _ Mo) ?_
      rintro o σ' ⟨ks2, xs2, clk2, M2, h⟩
      cases hc : canQ b (plainQ b j)
      · rw [hc] at h
        obtain ⟨rfl, c, d, rfl⟩ := h
        have hA : allCan b = false := by
          rw [← Bool.not_eq_true]
          intro h
          have := List.all_eq_true.1 h j (List.mem_range.2 hj)
          rw [hc] at this; cases this
        rw [hA]
        simp only [go_sem, Nat.reduceEqDiff]
        refine finDL_pan rfl rfl ((answer_pan rfl).mono fun σ' h => ?_)
        subst h
        exact ⟨_, rfl, [], rfl, rfl, res_mk rfl⟩
      · rw [hc, if_pos rfl] at h
        obtain ⟨rfl, rfl⟩ := h
        simp only [go_sem, Nat.reduceEqDiff, hwj]
        refine ⟨_, Sub.gc [0, 1, 2, 3] [35, 34, 14, 8, 12, 13, 6, 7] rfl rfl, fun k hk => ?_, ks2, xs2, clk2, M2, rfl⟩
        by_cases c : k < j
        · exact hall k c
        · rw [show k = j by omega]; exact hc
    · rintro st ⟨hall, ks, xs, clk, Mo, rfl⟩
      have hA : allCan b = true := List.all_eq_true.2 fun k hk => hall k (List.mem_range.1 hk)
      rw [hA]
      simp only [go_sem, Nat.reduceEqDiff, undef, undef]
      refine finDL_ret rfl rfl (answer_none.mono fun σ' h => ?_)
      subst h
      exact ⟨_, rfl, [], rfl, rfl, res_mk rfl⟩
end Go.Proofs.YtafcdpmcmmfbhaaDoor
