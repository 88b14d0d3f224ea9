/- Proved here: laws that the statements need (TbA, TbB, TbD, TbE, TbF, TbG, TbH, TbI, TbJ, TbK, TbL, TbM, TbN, TbO, TbT). No conditions but those that each law states. -/
import Derived.Test.YtbhbbjngndmnmaaGreatDoorUA
set_option linter.unusedSimpArgs false
set_option linter.unusedVariables false
namespace Go.Proofs.YtbhbbjngndmnmaaGreatDoor.B
open Go Go.Ab
structure Si where
  minute : Int
  c1 : Int
  c2 : Int
  r1 : Int
  r2 : Int
structure Bo where
  wide : Int
  deep : Int
  speed : Int
  last : Int
  seen : List (List Si)
abbrev Sp := Int × Int
def tSp (x : Sp) : T := .agg [vi x.1, vi x.2]
def tSi (s : Si) : T := .agg [vi s.minute, vi s.c1, vi s.c2, vi s.r1, vi s.r2]
def tSis (l : List Si) : T := .slice 5 (l.map tSi)
def bo5 (b : Bo) : List T := [vi b.wide, vi b.deep, vi b.speed, vi b.last, .slice 1 (b.seen.map tSis)]
def wI (n lo hi : Int) : Bool := decide (lo ≤ n ∧ n ≤ hi)
theorem wI_eq (n lo hi : Int) : wI n lo hi = (decide (lo ≤ n) && decide (n ≤ hi)) := by unfold wI; rw [Bool.eq_iff_iff]; simp
theorem wI_iff {n lo hi : Int} : wI n lo hi = true ↔ lo ≤ n ∧ n ≤ hi := by unfold wI; simp
def spB (lo hi high : Int) : Bool := decide (0 ≤ lo) && decide (lo ≤ hi) && decide (hi ≤ high)
theorem spB_iff {lo hi high : Int} : spB lo hi high = true ↔ 0 ≤ lo ∧ lo ≤ hi ∧ hi ≤ high := by simp [spB, and_assoc]
def Si.okB (b : Bo) (m : Int) (s : Si) : Bool := wI s.minute m b.last && spB s.c1 s.c2 (b.wide - 1) && spB s.r1 s.r2 (b.deep - 1)
def sawB (b : Bo) : Int → List Si → Bool
  | _, [] => true
  | m, s :: l => s.okB b m && sawB b s.minute l
def Bo.headB (b : Bo) : Bool := wI b.wide 1 8 && wI b.deep 1 6 && wI b.speed 0 3 && wI b.last 0 12 && decide (b.seen.length ≤ 4)
def Bo.ok (b : Bo) : Bool := b.headB && b.seen.all fun l => decide (l.length ≤ 5) && sawB b 0 l
structure Si.OK (b : Bo) (s : Si) : Prop where
  min : 0 ≤ s.minute ∧ s.minute ≤ b.last
  col : 0 ≤ s.c1 ∧ s.c1 ≤ s.c2 ∧ s.c2 ≤ b.wide - 1
  row : 0 ≤ s.r1 ∧ s.r1 ≤ s.r2 ∧ s.r2 ≤ b.deep - 1
structure Bo.OK (b : Bo) : Prop where
  wide : 1 ≤ b.wide ∧ b.wide ≤ 8
  deep : 1 ≤ b.deep ∧ b.deep ≤ 6
  speed : 0 ≤ b.speed ∧ b.speed ≤ 3
  last : 0 ≤ b.last ∧ b.last ≤ 12
  num : b.seen.length ≤ 4
  lens : ∀ l ∈ b.seen, l.length ≤ 5
  saw : ∀ l ∈ b.seen, sawB b 0 l = true
theorem Bo.ok_iff (b : Bo) : b.ok = true ↔ b.OK := by
  unfold Bo.ok Bo.headB
  simp only [Bool.and_eq_true, decide_eq_true_eq, List.all_eq_true, wI_iff]
  constructor
  · rintro ⟨⟨⟨⟨⟨h1, h2⟩, h3⟩, h4⟩, h5⟩, h6⟩
    exact ⟨h1, h2, h3, h4, h5, fun l hl => (h6 l hl).1, fun l hl => (h6 l hl).2⟩
  · rintro ⟨h1, h2, h3, h4, h5, h6, h7⟩
    exact ⟨⟨⟨⟨⟨h1, h2⟩, h3⟩, h4⟩, h5⟩, fun l hl => ⟨h6 l hl, h7 l hl⟩⟩
theorem okB_iff {b : Bo} {m : Int} {s : Si} : s.okB b m = true ↔ (m ≤ s.minute ∧ s.minute ≤ b.last) ∧ (0 ≤ s.c1 ∧ s.c1 ≤ s.c2 ∧ s.c2 ≤ b.wide - 1) ∧ (0 ≤ s.r1 ∧ s.r1 ≤ s.r2 ∧ s.r2 ≤ b.deep - 1) := by
  unfold Si.okB
  rw [Bool.and_eq_true, Bool.and_eq_true, wI_iff, spB_iff, spB_iff, and_assoc]
theorem saw_ok {b : Bo} : ∀ {l : List Si} {m : Int}, 0 ≤ m → sawB b m l = true → ∀ s ∈ l, s.OK b ∧ m ≤ s.minute
  | [], _, _, _, _, hs => by simp at hs
  | x :: l, m, hm, h, s, hs => by
    unfold sawB at h
    rw [Bool.and_eq_true, okB_iff] at h
    rcases List.mem_cons.1 hs with rfl | hs
    · exact ⟨⟨⟨by omega, h.1.1.2⟩, h.1.2.1, h.1.2.2⟩, h.1.1.1⟩
    · obtain ⟨h1, h2⟩ := saw_ok (by omega) h.2 s hs
      exact ⟨h1, by omega⟩
theorem Bo.OK.si {b : Bo} (h : b.OK) {l : List Si} (hl : l ∈ b.seen) {s : Si} (hs : s ∈ l) : s.OK b := (saw_ok (Int.le_refl _) (h.saw l hl) s hs).1
theorem within_ok (n lo hi : Int) : ACall Tryz.prog 56 [.t (vi n), .t (vi lo), .t (vi hi)] [] (ret (vb (wI n lo hi))) := by
  refine ACall.walk k56 ?_
  unfold c56
  rw [wI_eq]
  simp only [go_sem, Nat.reduceEqDiff, Nat.reduceAdd]
  cases hA : decide (lo ≤ n)
  · simp only [go_sem, Nat.reduceEqDiff, undef]
    exact finL_ret [] ⟨rfl, rfl, rfl, rfl, _, rfl, res_mk rfl⟩
  · simp only [go_sem, Nat.reduceEqDiff]
    exact finL_ret [] ⟨rfl, rfl, rfl, rfl, _, rfl, res_mk rfl⟩
def rfs (e : Int) : T := .iface 127 (vi e)
abbrev askO (is : Bool) (e : Int) : Out := if is then .ret (.tup []) else .pan (rfs e)
theorem ask_ok (is : Bool) (e : Int) : ACall Tryz.prog 55 [.t (vb is), .t (vi e)] [] (res (askO is e)) := by
  refine ACall.walk k55 ?_
  unfold c55
  cases is
  all_goals simp only [go_sem, Nat.reduceEqDiff, Bool.not_true, Bool.not_false]
  · exact finL_pan [] ⟨rfl, rfl, rfl, rfl, res_mk rfl⟩
  · exact finL_ret [] ⟨rfl, rfl, rfl, rfl, _, rfl, res_mk (by simp [E.gc])⟩
theorem answer_pan {σ : List AO} {id : Nat} {x : E} {e : Int} (h : σ[id]? = some (.cells [x])) : ADef Tryz.prog 32 [.ptr id 0] σ (some (rfs e)) fun σ' => σ' = σ.set id (.cells [.t (vi e)]) := by
  refine ADef.walk a32 ?_
  unfold c32
  simp only [pxT, rfs, go_sem, Nat.reduceEqDiff, Bool.not_true, h]
theorem answer_none {σ : List AO} {a : E} : ADef Tryz.prog 32 [a] σ none fun σ' => σ' = σ := by
  refine ADef.walk a32 ?_
  unfold c32
  simp only [pxT, go_sem, Nat.reduceEqDiff, Bool.not_true]
theorem isSpan_ok (x : Sp) (high : Int) : ACall Tryz.prog 57 [.t (tSp x), .t (vi high)] [] (ret (vb (spB x.1 x.2 high))) := by
  refine ACall.walk k57 ?_
  obtain ⟨lo, hi⟩ := x
  unfold c57 tSp spB
  simp only [go_sem, Nat.reduceEqDiff, Nat.reduceAdd, Nat.reduceLeDiff]
  cases h1 : decide (0 ≤ lo)
  · simp only [go_sem, Nat.reduceEqDiff, undef, undef]
    exact finL_ret [] ⟨rfl, rfl, rfl, rfl, _, rfl, res_mk rfl⟩
  simp only [go_sem, Nat.reduceEqDiff, Nat.reduceAdd, Nat.reduceLeDiff, beq_self_eq_true]
  cases h2 : decide (lo ≤ hi)
  · simp only [go_sem, Nat.reduceEqDiff, undef, undef]
    exact finL_ret [] ⟨rfl, rfl, rfl, rfl, _, rfl, res_mk rfl⟩
  simp only [go_sem, Nat.reduceEqDiff, Nat.reduceAdd, beq_self_eq_true]
  exact finL_ret [] ⟨rfl, rfl, rfl, rfl, _, rfl, res_mk rfl⟩
abbrev Lens (b : Bo) : Prop := b.seen.length < 9223372036854775808 ∧ ∀ l ∈ b.seen, l.length < 9223372036854775808
def Bo.isBoat (b : Bo) (n : Int) : Bool := wI n 0 (b.seen.length - 1)
def Bo.isMinute (b : Bo) (n : Int) : Bool := wI n 0 b.last
theorem isBoat_iff {b : Bo} {n : Int} : b.isBoat n = true ↔ 0 ≤ n ∧ n < b.seen.length := by unfold Bo.isBoat wI; simp; omega
theorem isMinute_iff {b : Bo} {n : Int} : b.isMinute n = true ↔ 0 ≤ n ∧ n ≤ b.last := by unfold Bo.isMinute wI; simp
theorem isBoat_ok (b : Bo) (hl : Lens b) (n : Int) : ACall Tryz.prog 34 [.t (.agg (bo5 b)), .t (vi n)] [] (ret (vb (b.isBoat n))) := by
  refine ACall.walk k34 ?_
  unfold c34 bo5
  have := hl.1
  have w1 : IntKind.i64.wrap ((b.seen.length : Int) - 1) = b.seen.length - 1 := wrap_id (by omega) (by omega)
  simp only [go_sem, Nat.reduceEqDiff, Nat.reduceAdd, List.length_map, w1]
  refine ACallL.quiet1 (within_ok _ _ _) rfl rfl rfl ?_
  simp only [go_sem, Nat.reduceEqDiff]
  exact finL_ret [] ⟨rfl, rfl, rfl, rfl, _, rfl, res_mk rfl⟩
theorem isMinute_ok (b : Bo) (n : Int) : ACall Tryz.prog 35 [.t (.agg (bo5 b)), .t (vi n)] [] (ret (vb (b.isMinute n))) := by
  refine ACall.walk k35 ?_
  unfold c35 bo5
  simp only [go_sem, Nat.reduceEqDiff, Nat.reduceAdd, Nat.reduceLeDiff]
  refine ACallL.quiet1 (within_ok _ _ _) rfl rfl rfl ?_
  simp only [go_sem, Nat.reduceEqDiff]
  exact finL_ret [] ⟨rfl, rfl, rfl, rfl, _, rfl, res_mk rfl⟩
abbrev vu (n : Int) : T := .lit (.int .u64 n)
theorem u64_nat {a : Nat} (h : a < 18446744073709551616) : IntKind.u64.wrap (a : Int) = a := by
  simp only [IntKind.wrap, IntKind.signed, IntKind.bits]
  exact Int.emod_eq_of_lt (by omega) (by omega)
theorem ubits_and {a b : Nat} (ha : a < 18446744073709551616) (hb : b < 18446744073709551616) : bits .and .u64 a b = ((a &&& b : Nat) : Int) := by
  have h1 : (BitVec.ofInt IntKind.u64.bits (a : Int) &&& BitVec.ofInt IntKind.u64.bits (b : Int)).toNat = a &&& b := by
    rw [BitVec.toNat_and, BitVec.ofInt_natCast, BitVec.ofInt_natCast, BitVec.toNat_ofNat, BitVec.toNat_ofNat]
    simp only [IntKind.bits]
    rw [Nat.mod_eq_of_lt (by omega), Nat.mod_eq_of_lt (by omega)]
  unfold bits
  simp only [h1]
  exact u64_nat (Nat.lt_of_le_of_lt Nat.and_le_left ha)
theorem ubits_or {a b : Nat} (ha : a < 18446744073709551616) (hb : b < 18446744073709551616) : bits .or .u64 a b = ((a ||| b : Nat) : Int) := by
  have h1 : (BitVec.ofInt IntKind.u64.bits (a : Int) ||| BitVec.ofInt IntKind.u64.bits (b : Int)).toNat = a ||| b := by
    rw [BitVec.toNat_or, BitVec.ofInt_natCast, BitVec.ofInt_natCast, BitVec.toNat_ofNat, BitVec.toNat_ofNat]
    simp only [IntKind.bits]
    rw [Nat.mod_eq_of_lt (by omega), Nat.mod_eq_of_lt (by omega)]
  unfold bits
  simp only [h1]
  exact u64_nat (Nat.or_lt_two_pow (n := 64) (by omega) (by omega))
theorem ubits_andNot {a b : Nat} (ha : a < 18446744073709551616) (hb : b < 18446744073709551616) : bits .andNot .u64 a b = ((ndiff a b : Nat) : Int) := by
  have h1 : (BitVec.ofInt IntKind.u64.bits (a : Int) &&& ~~~ BitVec.ofInt IntKind.u64.bits (b : Int)).toNat = ndiff a b := by
    apply Nat.eq_of_testBit_eq
    intro i
    rw [ndiff_bit, BitVec.testBit_toNat, BitVec.getLsbD_and, BitVec.getLsbD_not, BitVec.ofInt_natCast, BitVec.ofInt_natCast, BitVec.getLsbD_ofNat, BitVec.getLsbD_ofNat]
    simp only [IntKind.bits]
    by_cases hi : i < 64
    · simp [hi]
    · have : a.testBit i = false := Nat.testBit_lt_two_pow (Nat.lt_of_lt_of_le (show a < 2 ^ 64 by omega) (Nat.pow_le_pow_right (by omega) (by omega)))
      simp [hi, this]
  unfold bits
  simp only [h1]
  exact u64_nat (Nat.lt_of_le_of_lt (ndiff_le a b) ha)
theorem ushl {a i : Nat} (hi : i ≤ 64) (h : a <<< i < 18446744073709551616) : IntKind.u64.wrap ((a : Int) * 2 ^ (min i 64)) = ((a <<< i : Nat) : Int) := by
  rw [Nat.min_eq_left hi, ← u64_nat h]
  congr 1
  rw [Nat.shiftLeft_eq]
  norm_cast
theorem ushl_one {i : Nat} (h : i < 64) : IntKind.u64.wrap (1 * 2 ^ (min i 64)) = ((2 ^ i : Nat) : Int) := by
  have hp : 2 ^ i < 2 ^ 64 := Nat.pow_lt_pow_right (by decide) h
  have := ushl (a := 1) (i := i) (by omega) (by rw [Nat.shiftLeft_eq, Nat.one_mul]; omega)
  rw [Nat.shiftLeft_eq, Nat.one_mul] at this
  exact this
theorem dec7 {p : Nat → Prop} [DecidablePred p] {n : Nat} (h : ((List.range n).all fun n => decide (p n)) = true) (k : Nat) (hk : k < n) : p k := by
  have := List.all_eq_true.mp h k (List.mem_range.mpr hk)
  simpa using this
def orL (l : List Nat) : Nat := l.foldl (· ||| ·) 0
theorem orL_snoc (l : List Nat) (x : Nat) : orL (l ++ [x]) = orL l ||| x := by unfold orL; rw [List.foldl_append]; rfl
theorem orL_bit (l : List Nat) (i : Nat) : (orL l).testBit i = l.any (·.testBit i) := by
  have : ∀ (l : List Nat) (x : Nat), (l.foldl (· ||| ·) x).testBit i = (x.testBit i || l.any (·.testBit i)) := fun l => by
    induction l with
    | nil => intro x; simp
    | cons y l ih => intro x; rw [List.foldl_cons, ih, Nat.testBit_or, List.any_cons, Bool.or_assoc]
  unfold orL
  rw [this, Nat.zero_testBit, Bool.false_or]
theorem orL_lt {l : List Nat} {n : Nat} (h : ∀ x ∈ l, x < 2 ^ n) : orL l < 2 ^ n := by
  have key : ∀ (l : List Nat) (x : Nat), x < 2 ^ n → (∀ y ∈ l, y < 2 ^ n) → l.foldl (· ||| ·) x < 2 ^ n := fun l => by
    induction l with
    | nil => intro x hx _; exact hx
    | cons y l ih => intro x hx hl; rw [List.foldl_cons]; exact ih _ (Nat.or_lt_two_pow hx (hl y (by simp))) fun z hz => hl z (by simp [hz])
  exact key l 0 (Nat.two_pow_pos n) h
theorem union_ok (l : List Nat) (h : ∀ x ∈ l, x < 4611686018427387904) (hl : l.length < 100) : ACall Tryz.prog 68 [.t (.slice 1 (l.map fun z : Nat => vu z))] [] (ret (vu (orL l : Nat))) := by
  refine ACall.walk k68 ?_
  unfold c68
  simp only [go_sem, Nat.reduceEqDiff, List.length_map]
  refine awpL_for (i := 7) (L := 6) l.length (fun j s => s = { env := [(7, .t (vi j)), (6, .t (vi l.length)), (5, .t (.slice 1 (l.map fun z : Nat => vu z))), (2, .t (vu (orL (l.take j) : Nat)))], σ := [] }) ?_ ⟨_, Sub.gc [] [7, 6, 5, 2] rfl rfl, rfl⟩ ?_ ?_
  · rintro k s rfl; exact ⟨rfl, rfl⟩
  · rintro j s hj rfl
    have hwj : IntKind.i64.wrap ((j : Int) + 1) = ((j + 1 : Nat) : Int) := by rw [wrap_id (by omega) (by omega)]; omega
    have hx : l[j]? = some l[j] := List.getElem?_eq_getElem hj
    have h1 := h _ (List.getElem_mem hj)
    have h2 : orL (l.take j) < 2 ^ 62 := orL_lt fun x hx => h x (List.mem_of_mem_take hx)
    have ht : orL (l.take (j + 1)) = orL (l.take j) ||| l[j] := by rw [List.take_succ_eq_append_getElem hj, orL_snoc]
    have o1 := ubits_or (a := orL (l.take j)) (b := l[j]) (by omega) (by omega)
    rw [← ht] at o1
    generalize l[j] = x at *
    have hjj : (j : Int) < l.length := by omega
    simp only [go_sem, Nat.reduceEqDiff, List.getElem?_map, hx, Option.map_some, hwj, o1]
    exact ⟨_, Sub.gc [] [7, 6, 5, 2] rfl rfl, rfl⟩
  · rintro s rfl
    simp only [go_sem, Nat.reduceEqDiff, List.take_length]
    exact finL_ret [] ⟨rfl, rfl, rfl, rfl, _, rfl, res_mk rfl⟩
theorem upTo_ok (n : Nat) (hn : n < 100) : ACall Tryz.prog 70 [.t (vi n)] [] (ret (.slice 1 ((List.range (n + 1)).map fun z : Nat => vi z))) := by
  refine ACall.walk k70 ?_
  have w1 : IntKind.i64.wrap ((n : Int) + 1) = ((n + 1 : Nat) : Int) := by rw [wrap_id (by omega) (by omega)]; omega
  unfold c70
  simp only [go_sem, Nat.reduceEqDiff, w1]
  refine awpL_for (i := 6) (L := 5) (n + 1) (fun j s => s = { env := [(6, .t (vi j)), (5, .t (vi (n + 1 : Nat))), (2, .loc 0 j)], σ := [.row 1 (((List.range j).map fun z : Nat => vi z).map .t)] }) ?_ ⟨_, (Sub.ghost 2 1 (by decide) rfl).trans (Sub.gc [0] [6, 5, 2] rfl rfl), rfl⟩ ?_ ?_
  · rintro k s rfl; exact ⟨rfl, rfl⟩
  · rintro j s hj rfl
    have hwj : IntKind.i64.wrap ((j : Int) + 1) = ((j + 1 : Nat) : Int) := by rw [wrap_id (by omega) (by omega)]; omega
    simp only [go_sem, Nat.reduceEqDiff, Nat.reduceLT, List.length_map, List.length_range, hwj]
    refine ⟨⟨by unfold maxLen; omega, by omega⟩, _, Sub.gc [0] [6, 5, 2] rfl rfl, ?_⟩
    rw [List.map_append, List.map_append]
    exact St.gc_mk rfl (by
      show [AO.row 1 ((List.map E.t _ ++ List.map E.t [_]).map (E.gc _ _ _))] = _
      rw [List.map_append, gc_row, gc_row]
      rfl) rfl rfl
  · rintro s rfl
    simp only [go_sem, Nat.reduceEqDiff]
    refine finL_ret [] ⟨rfl, rfl, rfl, rfl, _, rfl, ⟨?_, rfl⟩⟩
    show Out.ret (E.gc [] _ 12 (.loc 0 (n + 1))) = _
    rw [gc_loc (n := 10) (xs := (List.range n ++ [n]).map fun z : Nat => vi z) rfl rfl (by simp), List.range_succ]
open Go Go.Ab
abbrev B48 : Nat := 281474976710656
theorem and_byte {b m X M : Nat} (hb : b < 256) (hm : m < 256) : (b + 256 * X) &&& (m + 256 * M) = (b &&& m) + 256 * (X &&& M) := by
  apply Nat.eq_of_testBit_eq
  intro i
  have hbm : b &&& m < 2 ^ 8 := Nat.lt_of_le_of_lt Nat.and_le_left hb
  rw [Nat.testBit_and, Nat.add_comm b, Nat.add_comm m, Nat.add_comm (b &&& m), show 256 = 2 ^ 8 from rfl, Nat.testBit_two_pow_mul_add _ hb, Nat.testBit_two_pow_mul_add _ hm, Nat.testBit_two_pow_mul_add _ hbm]
  split
  · rw [Nat.testBit_and]
  · rw [Nat.testBit_and]
theorem shr_byte {b m X M s : Nat} (hb : b < 256) (hs : s ≤ 8) (hm : m < 2 ^ (8 - s)) : ((b + 256 * X) / 2 ^ s) &&& (m + 256 * M) = ((b / 2 ^ s) &&& m) + 256 * ((X / 2 ^ s) &&& M) := by
  have hm8 : m < 2 ^ 8 := Nat.lt_of_lt_of_le hm (Nat.pow_le_pow_right (by decide) (by omega))
  apply Nat.eq_of_testBit_eq
  intro i
  have hbm : (b / 2 ^ s) &&& m < 2 ^ 8 := Nat.lt_of_le_of_lt Nat.and_le_right hm8
  rw [Nat.testBit_and, Nat.testBit_div_two_pow, Nat.add_comm b, Nat.add_comm m, Nat.add_comm ((b / 2 ^ s) &&& m), show 256 = 2 ^ 8 from rfl, Nat.testBit_two_pow_mul_add _ hb, Nat.testBit_two_pow_mul_add _ hm8, Nat.testBit_two_pow_mul_add _ hbm]
  by_cases c : i < 8
  · rw [if_pos c, if_pos c, Nat.testBit_and, Nat.testBit_div_two_pow]
    by_cases c2 : i + s < 8
    · rw [if_pos c2]
    · have : m.testBit i = false := Nat.testBit_lt_two_pow (Nat.lt_of_lt_of_le hm (Nat.pow_le_pow_right (by decide) (by omega)))
      rw [this, Bool.and_false, Bool.and_false]
  · rw [if_neg c, if_neg c, if_neg (by omega), Nat.testBit_and, Nat.testBit_div_two_pow]
    congr 2
    omega
def val6 (a b c d e f : Nat) : Nat := a + 256 * (b + 256 * (c + 256 * (d + 256 * (e + 256 * (f + 256 * 0)))))
theorem val6_of {p : Nat} (hp : p < B48) : p = val6 (p % 256) (p / 256 % 256) (p / 65536 % 256) (p / 16777216 % 256) (p / 4294967296 % 256) (p / 1099511627776 % 256) := by
  have hp : p < 281474976710656 := hp
  unfold val6
  omega
def g1 (n : Nat) : Nat := (n / 2 &&& 85) + (n &&& 85)
def g2 (n : Nat) : Nat := (n / 4 &&& 51) + (n &&& 51)
def g3 (n : Nat) : Nat := (n / 16 + n) % 16
theorem g_ok : ∀ n : Nat, n < 256 → g1 n < 256 ∧ g2 (g1 n) ≤ 68 ∧ g2 (g1 n) % 16 ≤ 4 ∧ g3 (g2 (g1 n)) = size n ∧ size n ≤ 8 := dec7 (by decide +kernel)
def rep (c : Nat) : Nat → Nat
  | 0 => 0
  | k + 1 => c + 256 * rep c k
theorem f1_byte {b X k : Nat} (hb : b < 256) : ((b + 256 * X) / 2 &&& rep 85 (k + 1)) + ((b + 256 * X) &&& rep 85 (k + 1)) = g1 b + 256 * ((X / 2 &&& rep 85 k) + (X &&& rep 85 k)) := by
  have h1 := shr_byte (X := X) (M := rep 85 k) (s := 1) hb (by decide) (show 85 < 2 ^ (8 - 1) by decide)
  have h2 := and_byte (X := X) (M := rep 85 k) hb (show 85 < 256 by decide)
  rw [Nat.pow_one] at h1
  unfold g1
  rw [show rep 85 (k + 1) = 85 + 256 * rep 85 k from rfl, h1, h2]
  omega
theorem f2_byte {b X k : Nat} (hb : b < 256) : ((b + 256 * X) / 4 &&& rep 51 (k + 1)) + ((b + 256 * X) &&& rep 51 (k + 1)) = g2 b + 256 * ((X / 4 &&& rep 51 k) + (X &&& rep 51 k)) := by
  have h1 := shr_byte (X := X) (M := rep 51 k) (s := 2) hb (by decide) (show 51 < 2 ^ (8 - 2) by decide)
  have h2 := and_byte (X := X) (M := rep 51 k) hb (show 51 < 256 by decide)
  rw [show 2 ^ 2 = 4 from rfl] at h1
  unfold g2
  rw [show rep 51 (k + 1) = 51 + 256 * rep 51 k from rfl, h1, h2]
  omega
theorem f3_byte {b X k : Nat} (hb : b ≤ 68) (hX : X % 16 ≤ 4) : (((b + 256 * X) / 16 + (b + 256 * X)) &&& rep 15 (k + 1)) = g3 b + 256 * ((X / 16 + X) &&& rep 15 k) := by
  have h0 : (b + 256 * X) / 16 + (b + 256 * X) = (b / 16 + b + 16 * (X % 16)) + 256 * (X / 16 + X) := by omega
  have h2 := and_byte (b := b / 16 + b + 16 * (X % 16)) (X := X / 16 + X) (M := rep 15 k) (by omega) (show 15 < 256 by decide)
  unfold g3
  rw [show rep 15 (k + 1) = 15 + 256 * rep 15 k from rfl, h0, h2, show (b / 16 + b + 16 * (X % 16)) &&& 15 = (b / 16 + b + 16 * (X % 16)) % 16 from Nat.and_two_pow_sub_one_eq_mod _ 4]
  omega
theorem ones_f1 {a b c d e f : Nat} (ha : a < 256) (hb : b < 256) (hc : c < 256) (hd : d < 256) (he : e < 256) (hf : f < 256) : (val6 a b c d e f / 2 &&& rep 85 8) + (val6 a b c d e f &&& rep 85 8) = val6 (g1 a) (g1 b) (g1 c) (g1 d) (g1 e) (g1 f) := by
  unfold val6
  rw [f1_byte ha, f1_byte hb, f1_byte hc, f1_byte hd, f1_byte he, f1_byte hf]
  rfl
theorem ones_f2 {a b c d e f : Nat} (ha : a < 256) (hb : b < 256) (hc : c < 256) (hd : d < 256) (he : e < 256) (hf : f < 256) : (val6 a b c d e f / 4 &&& rep 51 8) + (val6 a b c d e f &&& rep 51 8) = val6 (g2 a) (g2 b) (g2 c) (g2 d) (g2 e) (g2 f) := by
  unfold val6
  rw [f2_byte ha, f2_byte hb, f2_byte hc, f2_byte hd, f2_byte he, f2_byte hf]
  rfl
theorem ones_f3 {a b c d e f : Nat} (ha : a ≤ 68) (hb : b ≤ 68) (hc : c ≤ 68) (hd : d ≤ 68) (he : e ≤ 68) (hf : f ≤ 68) (hb' : b % 16 ≤ 4) (hc' : c % 16 ≤ 4) (hd' : d % 16 ≤ 4) (he' : e % 16 ≤ 4) (hf' : f % 16 ≤ 4) :
    ((val6 a b c d e f / 16 + val6 a b c d e f) &&& rep 15 8) = val6 (g3 a) (g3 b) (g3 c) (g3 d) (g3 e) (g3 f) := by
  unfold val6
  rw [f3_byte ha (by omega), f3_byte hb (by omega), f3_byte hc (by omega), f3_byte hd (by omega), f3_byte he (by omega), f3_byte hf (by omega)]
  rfl
theorem popF_split : ∀ (j k b X : Nat), b < 2 ^ j → popF (j + k) (b + 2 ^ j * X) = popF j b + popF k X
  | 0, k, b, X, h => by
    have : b = 0 := by simpa using h
    subst this
    simp [popF]
  | j + 1, k, b, X, h => by
    have e1 : (b + 2 ^ (j + 1) * X) % 2 = b % 2 := by rw [Nat.pow_succ, Nat.mul_comm (2 ^ j) 2, Nat.mul_assoc]; omega
    have e2 : (b + 2 ^ (j + 1) * X) / 2 = b / 2 + 2 ^ j * X := by rw [Nat.pow_succ, Nat.mul_comm (2 ^ j) 2, Nat.mul_assoc]; omega
    rw [show j + 1 + k = (j + k) + 1 by omega]
    show (b + 2 ^ (j + 1) * X) % 2 + popF (j + k) ((b + 2 ^ (j + 1) * X) / 2) = b % 2 + popF j (b / 2) + popF k X
    rw [e1, e2, popF_split j k (b / 2) X (by rw [Nat.pow_succ] at h; omega)]
    omega
theorem popF_zero : ∀ k, popF k 0 = 0
  | 0 => rfl
  | k + 1 => by show 0 % 2 + popF k (0 / 2) = 0; rw [popF_zero k]
theorem size_byte {b : Nat} (hb : b < 256) : size b = popF 8 b := by
  have := popF_split 8 56 b 0 hb
  rw [popF_zero] at this
  exact this
theorem size_val6 {a b c d e f : Nat} (ha : a < 256) (hb : b < 256) (hc : c < 256) (hd : d < 256) (he : e < 256) (hf : f < 256) : size (val6 a b c d e f) = size a + size b + size c + size d + size e + size f := by
  rw [size_byte ha, size_byte hb, size_byte hc, size_byte hd, size_byte he, size_byte hf]
  show popF 64 (val6 a b c d e f) = _
  unfold val6
  have h1 := popF_split 8 56 a (b + 256 * (c + 256 * (d + 256 * (e + 256 * (f + 256 * 0))))) ha
  have h2 := popF_split 8 48 b (c + 256 * (d + 256 * (e + 256 * (f + 256 * 0)))) hb
  have h3 := popF_split 8 40 c (d + 256 * (e + 256 * (f + 256 * 0))) hc
  have h4 := popF_split 8 32 d (e + 256 * (f + 256 * 0)) hd
  have h5 := popF_split 8 24 e (f + 256 * 0) he
  have h6 := popF_split 8 16 f 0 hf
  rw [popF_zero] at h6
  rw [show (2 : Nat) ^ 8 = 256 from rfl] at h1 h2 h3 h4 h5 h6
  rw [h1, h2, h3, h4, h5, h6]
  omega
theorem val6_lt {a b c d e f : Nat} (ha : a < 256) (hb : b < 256) (hc : c < 256) (hd : d < 256) (he : e < 256) (hf : f < 256) : val6 a b c d e f < B48 := by
  show _ < 281474976710656
  unfold val6
  omega
theorem ones_sum {x a b c d e f : Nat} (hx : x = val6 a b c d e f) (ha : a ≤ 8) (hb : b ≤ 8) (hc : c ≤ 8) (hd : d ≤ 8) (he : e ≤ 8) (hf : f ≤ 8) :
    ((x + x / 256) + (x + x / 256) / 65536 + ((x + x / 256) + (x + x / 256) / 65536) / 4294967296) % 128 = a + b + c + d + e + f := by
  unfold val6 at hx
  have h1 : x + x / 256 = (a + b) + 256 * ((b + c) + 256 * ((c + d) + 256 * ((d + e) + 256 * ((e + f) + 256 * f)))) := by
    have : x / 256 = b + 256 * (c + 256 * (d + 256 * (e + 256 * (f + 256 * 0)))) := by
      generalize b + 256 * (c + 256 * (d + 256 * (e + 256 * (f + 256 * 0)))) = y at *
      omega
    omega
  rw [h1]
  clear h1 hx
  have h2 : (a + b) + 256 * ((b + c) + 256 * ((c + d) + 256 * ((d + e) + 256 * ((e + f) + 256 * f)))) + ((a + b) + 256 * ((b + c) + 256 * ((c + d) + 256 * ((d + e) + 256 * ((e + f) + 256 * f))))) / 65536 = (a + b + c + d) + 256 * ((b + c + d + e) + 256 * ((c + d + e + f) + 256 * ((d + e + f) + 256 * ((e + f) + 256 * f)))) := by
    have : ((a + b) + 256 * ((b + c) + 256 * ((c + d) + 256 * ((d + e) + 256 * ((e + f) + 256 * f))))) / 65536 = (c + d) + 256 * ((d + e) + 256 * ((e + f) + 256 * f)) := by
      generalize (c + d) + 256 * ((d + e) + 256 * ((e + f) + 256 * f)) = y at *
      omega
    omega
  rw [h2]
  have h3 : ((a + b + c + d) + 256 * ((b + c + d + e) + 256 * ((c + d + e + f) + 256 * ((d + e + f) + 256 * ((e + f) + 256 * f))))) / 4294967296 = (e + f) + 256 * f := by
    generalize (e + f) + 256 * f = y at *
    omega
  rw [h3]
  generalize (b + c + d + e) + 256 * ((c + d + e + f) + 256 * ((d + e + f) + 256 * ((e + f) + 256 * f))) = y at *
  omega
theorem ushr {a i : Nat} (ha : a < 9223372036854775808) : ((a : Int)).fdiv (2 ^ (min i 64)) = ((a / 2 ^ i : Nat) : Int) := by rw [shr_nat ha, Nat.shiftRight_eq_div_pow]
theorem st1 {x y : Nat} (hx : x < B48) (h : (x / 2 &&& rep 85 8) + (x &&& rep 85 8) = y) (hy : y < B48) : IntKind.u64.wrap (bits .and .u64 ((x : Int).fdiv (2 ^ (min 1 64))) 6148914691236517205 + bits .and .u64 (x : Int) 6148914691236517205) = (y : Int) := by
  have hx' : x < 281474976710656 := hx
  have hy' : y < 281474976710656 := hy
  rw [ushr (by omega), show (6148914691236517205 : Int) = ((rep 85 8 : Nat) : Int) from by decide +kernel, show 2 ^ 1 = 2 from rfl, ubits_and (by omega) (by decide +kernel), ubits_and (by omega) (by decide +kernel), ← h, ← Int.natCast_add, h]
  exact u64_nat (by omega)
theorem st2 {x y : Nat} (hx : x < B48) (h : (x / 4 &&& rep 51 8) + (x &&& rep 51 8) = y) (hy : y < B48) : IntKind.u64.wrap (bits .and .u64 ((x : Int).fdiv (2 ^ (min 2 64))) 3689348814741910323 + bits .and .u64 (x : Int) 3689348814741910323) = (y : Int) := by
  have hx' : x < 281474976710656 := hx
  have hy' : y < 281474976710656 := hy
  rw [ushr (by omega), show (3689348814741910323 : Int) = ((rep 51 8 : Nat) : Int) from by decide +kernel, show 2 ^ 2 = 4 from rfl, ubits_and (by omega) (by decide +kernel), ubits_and (by omega) (by decide +kernel), ← h, ← Int.natCast_add, h]
  exact u64_nat (by omega)
theorem st3 {x y : Nat} (hx : x < B48) (h : ((x / 16 + x) &&& rep 15 8) = y) : bits .and .u64 (IntKind.u64.wrap ((x : Int).fdiv (2 ^ (min 4 64)) + (x : Int))) 1085102592571150095 = (y : Int) := by
  have hx' : x < 281474976710656 := hx
  rw [ushr (by omega), show (1085102592571150095 : Int) = ((rep 15 8 : Nat) : Int) from by decide +kernel, show 2 ^ 4 = 16 from rfl, ← Int.natCast_add, u64_nat (by omega), ubits_and (by omega) (by decide +kernel), h]
theorem st4 {x i : Nat} (hx : x < 4611686018427387904) : IntKind.u64.wrap ((x : Int) + (x : Int).fdiv (2 ^ (min i 64))) = ((x + x / 2 ^ i : Nat) : Int) := by
  have := Nat.div_le_self x (2 ^ i)
  rw [ushr (by omega), ← Int.natCast_add, u64_nat (by omega)]
set_option maxHeartbeats 2000000 in
theorem ones_facts (p : Nat) (hp : p < B48) : ∃ x1 x2 x3 x4 x5 x6 : Nat,
    IntKind.u64.wrap (bits .and .u64 ((p : Int).fdiv (2 ^ (min 1 64))) 6148914691236517205 + bits .and .u64 (p : Int) 6148914691236517205) = (x1 : Int) ∧
    IntKind.u64.wrap (bits .and .u64 ((x1 : Int).fdiv (2 ^ (min 2 64))) 3689348814741910323 + bits .and .u64 (x1 : Int) 3689348814741910323) = (x2 : Int) ∧
    bits .and .u64 (IntKind.u64.wrap ((x2 : Int).fdiv (2 ^ (min 4 64)) + (x2 : Int))) 1085102592571150095 = (x3 : Int) ∧
    IntKind.u64.wrap ((x3 : Int) + (x3 : Int).fdiv (2 ^ (min 8 64))) = (x4 : Int) ∧
    IntKind.u64.wrap ((x4 : Int) + (x4 : Int).fdiv (2 ^ (min 16 64))) = (x5 : Int) ∧
    IntKind.u64.wrap ((x5 : Int) + (x5 : Int).fdiv (2 ^ (min 32 64))) = (x6 : Int) ∧
    IntKind.i64.wrap (x6 : Int) = (x6 : Int) ∧ bits .and .i64 (x6 : Int) 127 = ((size p : Nat) : Int) := by
  have hv := val6_of hp
  have hp' : p < 281474976710656 := hp
  have ha : p % 256 < 256 := by omega
  have hb : p / 256 % 256 < 256 := by omega
  have hc : p / 65536 % 256 < 256 := by omega
  have hd : p / 16777216 % 256 < 256 := by omega
  have he : p / 4294967296 % 256 < 256 := by omega
  have hf : p / 1099511627776 % 256 < 256 := by omega
  generalize p % 256 = a at *
  generalize p / 256 % 256 = b at *
  generalize p / 65536 % 256 = c at *
  generalize p / 16777216 % 256 = d at *
  generalize p / 4294967296 % 256 = e at *
  generalize p / 1099511627776 % 256 = f at *
  obtain ⟨a1, a2, a3, a4, a5⟩ := g_ok a ha
  obtain ⟨b1, b2, b3, b4, b5⟩ := g_ok b hb
  obtain ⟨c1, c2, c3, c4, c5⟩ := g_ok c hc
  obtain ⟨d1, d2, d3, d4, d5⟩ := g_ok d hd
  obtain ⟨e1, e2, e3, e4, e5⟩ := g_ok e he
  obtain ⟨f1, f2, f3, f4, f5⟩ := g_ok f hf
  have hs := size_val6 ha hb hc hd he hf
  rw [← hv] at hs
  have q1 := ones_f1 ha hb hc hd he hf
  rw [← hv] at q1
  have v1 := val6_lt a1 b1 c1 d1 e1 f1
  have q2 := ones_f2 a1 b1 c1 d1 e1 f1
  have v2 := val6_lt (show g2 (g1 a) < 256 by omega) (show g2 (g1 b) < 256 by omega) (show g2 (g1 c) < 256 by omega) (show g2 (g1 d) < 256 by omega) (show g2 (g1 e) < 256 by omega) (show g2 (g1 f) < 256 by omega)
  have q3 := ones_f3 a2 b2 c2 d2 e2 f2 b3 c3 d3 e3 f3
  rw [a4, b4, c4, d4, e4, f4] at q3
  have v3 := val6_lt (show size a < 256 by omega) (show size b < 256 by omega) (show size c < 256 by omega) (show size d < 256 by omega) (show size e < 256 by omega) (show size f < 256 by omega)
  have r1 := st1 hp q1 v1
  have r2 := st2 v1 q2 v2
  have r3 := st3 v2 q3
  have hsum := ones_sum (x := val6 (size a) (size b) (size c) (size d) (size e) (size f)) rfl a5 b5 c5 d5 e5 f5
  rw [← hs] at hsum
  generalize val6 (size a) (size b) (size c) (size d) (size e) (size f) = x3 at *
  generalize val6 (g2 (g1 a)) (g2 (g1 b)) (g2 (g1 c)) (g2 (g1 d)) (g2 (g1 e)) (g2 (g1 f)) = x2 at *
  generalize val6 (g1 a) (g1 b) (g1 c) (g1 d) (g1 e) (g1 f) = x1 at *
  have v3' : x3 < 281474976710656 := v3
  have r4 := st4 (x := x3) (i := 8) (by omega)
  rw [show 2 ^ 8 = 256 from rfl] at r4
  have h4 : x3 + x3 / 256 < 562949953421312 := by omega
  generalize x3 + x3 / 256 = x4 at *
  have r5 := st4 (x := x4) (i := 16) (by omega)
  rw [show 2 ^ 16 = 65536 from rfl] at r5
  have h5 : x4 + x4 / 65536 < 1125899906842624 := by omega
  generalize x4 + x4 / 65536 = x5 at *
  have r6 := st4 (x := x5) (i := 32) (by omega)
  rw [show 2 ^ 32 = 4294967296 from rfl] at r6
  have h6 : x5 + x5 / 4294967296 < 2251799813685248 := by omega
  generalize x5 + x5 / 4294967296 = x6 at *
  have r7 : IntKind.i64.wrap (x6 : Int) = x6 := wrap_id (by omega) (by omega)
  have r8 : bits .and .i64 (x6 : Int) 127 = ((size p : Nat) : Int) := by
    have hm : x6 &&& 127 = x6 % 128 := Nat.and_two_pow_sub_one_eq_mod x6 7
    rw [show (127 : Int) = ((127 : Nat) : Int) from rfl, bits_and (by omega) (by omega), hm, hsum]
  exact ⟨x1, x2, x3, x4, x5, x6, r1, r2, r3, r4, r5, r6, r7, r8⟩
theorem ones64_ok (p : Nat) (hp : p < B48) : ACall Tryz.prog 100 [.t (vu p)] [] (ret (vi (size p))) := by
  obtain ⟨x1, x2, x3, x4, x5, x6, r1, r2, r3, r4, r5, r6, r7, r8⟩ := ones_facts p hp
  refine ACall.walk k100 ?_
  unfold c100
  simp only [go_sem, Nat.reduceEqDiff, Int.reduceToNat, Int.reduceLT, r1, r2, r3, r4, r5, r6, r7, r8]
  exact finL_ret [] ⟨rfl, rfl, rfl, rfl, _, rfl, res_mk rfl⟩
theorem ones_ok (p : Nat) (hp : p < B48) : ACall Tryz.prog 74 [.t (vu p)] [] (ret (vi (size p))) := by
  refine ACall.walk k74 ?_
  unfold c74
  simp only [go_sem, Nat.reduceEqDiff]
  refine ACallL.quiet1 (ones64_ok p hp) rfl rfl rfl ?_
  simp only [go_sem, Nat.reduceEqDiff]
  exact finL_ret [] ⟨rfl, rfl, rfl, rfl, _, rfl, res_mk rfl⟩
open Go Go.Ab
def c58g (m : Int) (tb : T) : AC :=
 .seq (.reg [⟨(some 2), none, .mov (.lit (.int .i64 0))⟩])
 (.seq (.seq (.reg [⟨(some 3), none, .mov (.tmp 0)⟩,
 ⟨(some 4), none, .bin .eql (.tmp 3) (.lit (.int .u64 0))⟩])
 (.cond (.tmp 4) (.seq (.reg [⟨(some 2), none, .mov (.lit (.int .i64 64))⟩])
 (.ret))
 (.skip)))
 (.seq (.reg [⟨(some 5), none, .mov (.tmp 0)⟩,
 ⟨(some 6), none, .mov (.tmp 0)⟩,
 ⟨(some 7), none, .un .neg (.tmp 6)⟩,
 ⟨(some 8), none, .bin .and (.tmp 5) (.tmp 7)⟩,
 ⟨(some 9), none, .bin .mul (.tmp 8) (.lit (.int .u64 m))⟩,
 ⟨(some 10), none, .bin .shr (.tmp 9) (.lit (.int .u64 58))⟩,
 ⟨(some 11), none, .iaddrA 64 1 (.tr (.ptr tb 0)) (.tmp 10)⟩,
 ⟨(some 12), none, .load false 1 (.tmp 11)⟩,
 ⟨(some 13), none, .conv .i64 (.tmp 12)⟩,
 ⟨(some 2), none, .mov (.tmp 13)⟩])
 (.ret)))
theorem c58_g : c58 = c58g 285870213051353865 (tabT tab64) := rfl
theorem tz_gen (m : Int) (cs : List T) (x : Int) (k j : Nat) (n2 : (x == 0) = false) (hj : j < 64) (hcs : cs[j]? = some (.lit (.int .u8 k))) (hk : k < 256)
    (d1 : (IntKind.u64.wrap (bits .and .u64 x (IntKind.u64.wrap (0 - x)) * m)).fdiv (2 ^ min 58 64) = (j : Int)) :
    @awpL { P := Tryz.prog, nb := 0, pn := [] } ⟨c58g m (.agg cs)⟩ ⟨fun e s => @finL 0 0 ⟨[.tmp 2]⟩ ⟨ret (vi k)⟩ e s⟩ { env := argEnv 0 [.t (.lit (.int .u64 x))], σ := [], df := [], k := 0 } := by
  unfold c58g
  have hw : IntKind.i64.wrap (k : Int) = k := wrap_id (by omega) (by omega)
  simp only [go_sem, Nat.reduceEqDiff, Int.reduceToNat, Int.reduceLT, n2, d1, Nat.mul_one, hcs, hw]
  refine ⟨by omega, ?_⟩
  exact finL_ret [] ⟨rfl, rfl, rfl, rfl, _, rfl, res_mk rfl⟩
def dB (k : Nat) : Nat := (2 ^ k * 285870213051353865 % 18446744073709551616) / 288230376151711744
theorem dB_ok : ∀ k : Nat, k < 48 → (IntKind.u64.wrap (((2 ^ k : Nat) : Int) * 285870213051353865)).fdiv (2 ^ min 58 64) = (dB k : Int) := dec7 (by decide +kernel)
theorem tab64_at : ∀ k : Nat, k < 48 → dB k < 64 ∧ tab64[dB k]? = some k := dec7 (by decide +kernel)
theorem low_and {p k : Nat} (hp : p < 2 ^ 64) (hk : p.testBit k = true) (hm : ∀ i < k, p.testBit i = false) : p &&& (2 ^ 64 - p) = 2 ^ k := by
  have h0 : p ≠ 0 := by rintro rfl; simp at hk
  have hmod : p % 2 ^ (k + 1) = 2 ^ k := by
    apply Nat.eq_of_testBit_eq
    intro i
    rw [Nat.testBit_mod_two_pow, Nat.testBit_two_pow]
    by_cases c : i < k + 1
    · rw [decide_eq_true c, Bool.true_and]
      by_cases e : k = i
      · subst e; simp [hk]
      · rw [hm i (by omega), decide_eq_false e]
    · rw [decide_eq_false c, decide_eq_false (by omega)]; rfl
  have hdec : p = 2 ^ (k + 1) * (p / 2 ^ (k + 1)) + 2 ^ k := by
    have := Nat.div_add_mod p (2 ^ (k + 1))
    omega
  have hpos := Nat.two_pow_pos k
  have hpred : p - 1 = 2 ^ (k + 1) * (p / 2 ^ (k + 1)) + (2 ^ k - 1) := by omega
  have hlt1 : 2 ^ k - 1 < 2 ^ (k + 1) := by rw [Nat.pow_succ]; omega
  have hlt2 : 2 ^ k < 2 ^ (k + 1) := by rw [Nat.pow_succ]; omega
  apply Nat.eq_of_testBit_eq
  intro i
  have e1 : 2 ^ 64 - p = 2 ^ 64 - ((p - 1) + 1) := by omega
  rw [Nat.testBit_and, e1, Nat.testBit_two_pow_sub_succ (by omega), Nat.testBit_two_pow]
  by_cases c : i < k
  · rw [hm i c, Bool.false_and, decide_eq_false (show ¬ k = i by omega)]
  · by_cases e : k = i
    · subst e
      have hp1 : (p - 1).testBit k = false := by
        rw [hpred, Nat.testBit_two_pow_mul_add _ hlt1, if_pos (by omega), Nat.testBit_two_pow_sub_one, decide_eq_false (by omega)]
      have hk64 : k < 64 := by
        apply Classical.byContradiction
        intro h
        rw [Nat.testBit_lt_two_pow (Nat.lt_of_lt_of_le hp (Nat.pow_le_pow_right (by decide) (by omega)))] at hk
        cases hk
      rw [hk, hp1, decide_eq_true hk64]; simp
    · have h1 : (p - 1).testBit i = p.testBit i := by
        rw [hpred, Nat.testBit_two_pow_mul_add _ hlt1, if_neg (by omega)]
        conv => rhs; rw [hdec, Nat.testBit_two_pow_mul_add _ hlt2, if_neg (by omega)]
      rw [h1, decide_eq_false e]
      cases p.testBit i <;> simp
theorem tz64_ok (p k : Nat) (hp : p < B48) (hk : p.testBit k = true) (hm : ∀ i < k, p.testBit i = false) : ACall Tryz.prog 58 [.t (vu p)] [] (ret (vi k)) := by
  have hp' : p < 281474976710656 := hp
  have hk48 : k < 48 := by
    apply Classical.byContradiction
    intro h
    rw [Nat.testBit_lt_two_pow (Nat.lt_of_lt_of_le (show p < 2 ^ 48 from hp') (Nat.pow_le_pow_right (by decide) (by omega)))] at hk
    cases hk
  have h0 : p ≠ 0 := by rintro rfl; simp at hk
  obtain ⟨h1, h2⟩ := tab64_at k hk48
  have hneg : IntKind.u64.wrap (0 - (p : Int)) = ((2 ^ 64 - p : Nat) : Int) := by
    have h : IntKind.u64.wrap (0 - (p : Int)) = (0 - (p : Int)) % 18446744073709551616 := by simp [IntKind.wrap, IntKind.signed, IntKind.bits]
    rw [h]
    omega
  have hand : bits .and .u64 (p : Int) (IntKind.u64.wrap (0 - (p : Int))) = ((2 ^ k : Nat) : Int) := by
    rw [hneg, ubits_and (by omega) (by omega), low_and (by omega) hk hm]
  refine ACall.walk k58 ?_
  rw [c58_g]
  exact tz_gen _ _ (p : Int) k (dB k) (by rw [beq_eq_false_iff_ne]; omega) h1 (by rw [List.getElem?_map, h2]; rfl) (by omega) (by rw [hand]; exact dB_ok k hk48)
def blen (p : Nat) : Nat := if p = 0 then 0 else p.log2 + 1
theorem blen_shift {p k : Nat} (h : 2 ^ k ≤ p) : blen p = k + blen (p / 2 ^ k) := by
  have hpos := Nat.two_pow_pos k
  have hp : p ≠ 0 := by omega
  have hq : p / 2 ^ k ≠ 0 := by have := Nat.div_pos h hpos; omega
  unfold blen
  rw [if_neg hp, if_neg hq]
  have : p.log2 = k + (p / 2 ^ k).log2 := by
    rw [Nat.log2_eq_iff hp]
    have h1 := Nat.log2_self_le hq
    have h2 := Nat.lt_log2_self (n := p / 2 ^ k)
    constructor
    · rw [Nat.pow_add]
      exact Nat.le_trans (Nat.mul_le_mul_left _ h1) (Nat.mul_div_le _ _)
    · rw [Nat.add_assoc, Nat.pow_add]
      exact (Nat.div_lt_iff_lt_mul hpos).1 h2 |> fun h => by rw [Nat.mul_comm]; exact h
  omega
theorem blen_top {p : Nat} (hp : p ≠ 0) : p.testBit (blen p - 1) = true ∧ ∀ i, p.testBit i = true → i ≤ blen p - 1 := by
  unfold blen
  rw [if_neg hp, Nat.add_sub_cancel]
  refine ⟨Nat.testBit_log2 hp, fun i hi => ?_⟩
  have := Nat.ge_two_pow_of_testBit hi
  exact (Nat.le_log2 hp).2 this
def LnMid (p X N : Nat) (st : St) : Prop := ∃ x n : Nat, x < X ∧ blen p = n + blen x ∧ n ≤ N ∧ lk st.env 0 = .t (vu x) ∧ lk st.env 2 = .t (vi n) ∧ st.σ = [] ∧ st.df = [] ∧ st.k = 0
def len8L : List Nat := [0, 1, 2, 2, 3, 3, 3, 3, 4, 4, 4, 4, 4, 4, 4, 4, 5, 5, 5, 5, 5, 5, 5, 5, 5, 5, 5, 5, 5, 5, 5, 5, 6, 6, 6, 6, 6, 6, 6, 6, 6, 6, 6, 6, 6, 6, 6, 6, 6, 6, 6, 6, 6, 6, 6, 6, 6, 6, 6, 6, 6, 6, 6, 6, 7, 7, 7, 7, 7, 7, 7, 7, 7, 7, 7, 7, 7, 7, 7, 7, 7, 7, 7, 7, 7, 7, 7, 7, 7, 7, 7, 7, 7, 7, 7, 7, 7, 7, 7, 7, 7, 7, 7, 7, 7, 7, 7, 7, 7, 7, 7, 7, 7, 7, 7, 7, 7, 7, 7, 7, 7, 7, 7, 7, 7, 7, 7, 7, 8, 8, 8, 8, 8, 8, 8, 8, 8, 8, 8, 8, 8, 8, 8, 8, 8, 8, 8, 8, 8, 8, 8, 8, 8, 8, 8, 8, 8, 8, 8, 8, 8, 8, 8, 8, 8, 8, 8, 8, 8, 8, 8, 8, 8, 8, 8, 8, 8, 8, 8, 8, 8, 8, 8, 8, 8, 8, 8, 8, 8, 8, 8, 8, 8, 8, 8, 8, 8, 8, 8, 8, 8, 8, 8, 8, 8, 8, 8, 8, 8, 8, 8, 8, 8, 8, 8, 8, 8, 8, 8, 8, 8, 8, 8, 8, 8, 8, 8, 8, 8, 8, 8, 8, 8, 8, 8, 8, 8, 8, 8, 8, 8, 8, 8, 8, 8, 8, 8, 8, 8, 8, 8, 8, 8, 8, 8, 8]
theorem len8_at : ∀ x : Nat, x < 256 → len8L[x]? = some (blen x) ∧ blen x < 256 := dec7 (by decide +kernel)
set_option maxRecDepth 8000 in
theorem len64_ok (p : Nat) (hp : p < B48) : ACall Tryz.prog 59 [.t (vu p)] [] (ret (vi (blen p))) := by
  have hp' : p < 281474976710656 := hp
  refine ACall.walk k59 ?_
  unfold c59
  refine awpL_chop 2 (c1 := ?a1) (c2 := ?a2) (LnMid p 4294967296 32) ?hc1 ?_ ?_
  case hc1 => simp only [chop]; rfl
  · simp only [go_sem, Nat.reduceEqDiff]
    cases h : decide ((p : Int) ≥ 4294967296)
    · have h := of_decide_eq_false h
      simp only [go_sem]
      exact ⟨p, 0, by omega, by omega, by omega, rfl, rfl, rfl, rfl, rfl⟩
    · have h := of_decide_eq_true h
      have hs := ushr (a := p) (i := 32) (by omega)
      have hb := blen_shift (p := p) (k := 32) (by omega)
      simp only [go_sem, Nat.reduceEqDiff, Int.reduceToNat, Int.reduceLT, hs]
      exact ⟨p / 2 ^ 32, 32, by omega, hb, by omega, rfl, rfl, rfl, rfl, rfl⟩
  rintro ⟨env, σ, df, k⟩ ⟨x, n, hx, hb, hn, q0, q2, hσ, hdf, hk⟩
  simp only at q0 q2 hσ hdf hk
  subst hσ hdf hk
  refine awpL_chop 1 (c1 := ?b1) (c2 := ?b2) (LnMid p 65536 48) ?hc2 ?_ ?_
  case hc2 => simp only [chop]; rfl
  · simp only [go_sem, Nat.reduceEqDiff, q0]
    cases h : decide ((x : Int) ≥ 65536)
    · have h := of_decide_eq_false h
      simp only [go_sem]
      exact ⟨x, n, by omega, hb, by omega, q0, q2, rfl, rfl, rfl⟩
    · have h := of_decide_eq_true h
      have hs := ushr (a := x) (i := 16) (by omega)
      have hb2 := blen_shift (p := x) (k := 16) (by omega)
      have hw : IntKind.i64.wrap ((n : Int) + 16) = ((n + 16 : Nat) : Int) := by rw [wrap_id (by omega) (by omega)]; omega
      simp only [go_sem, Nat.reduceEqDiff, Int.reduceToNat, Int.reduceLT, hs, q0, q2, hw]
      exact ⟨x / 2 ^ 16, n + 16, by omega, by omega, by omega, rfl, rfl, rfl, rfl, rfl⟩
  clear q0 q2 hx hb hn
  rintro ⟨env, σ, df, k⟩ ⟨x, n, hx, hb, hn, q0, q2, hσ, hdf, hk⟩
  simp only at q0 q2 hσ hdf hk
  subst hσ hdf hk
  refine awpL_chop 1 (c1 := ?d1) (c2 := ?d2) (LnMid p 256 56) ?hc3 ?_ ?_
  case hc3 => simp only [chop]; rfl
  · simp only [go_sem, Nat.reduceEqDiff, q0]
    cases h : decide ((x : Int) ≥ 256)
    · have h := of_decide_eq_false h
      simp only [go_sem]
      exact ⟨x, n, by omega, hb, by omega, q0, q2, rfl, rfl, rfl⟩
    · have h := of_decide_eq_true h
      have hs := ushr (a := x) (i := 8) (by omega)
      have hb2 := blen_shift (p := x) (k := 8) (by omega)
      have hw : IntKind.i64.wrap ((n : Int) + 8) = ((n + 8 : Nat) : Int) := by rw [wrap_id (by omega) (by omega)]; omega
      simp only [go_sem, Nat.reduceEqDiff, Int.reduceToNat, Int.reduceLT, hs, q0, q2, hw]
      exact ⟨x / 2 ^ 8, n + 8, by omega, by omega, by omega, rfl, rfl, rfl, rfl, rfl⟩
  clear q0 q2 hx hb hn
  rintro ⟨env, σ, df, k⟩ ⟨x, n, hx, hb, hn, q0, q2, hσ, hdf, hk⟩
  simp only at q0 q2 hσ hdf hk
  subst hσ hdf hk
  obtain ⟨h8, h9⟩ := len8_at x hx
  have hw8 : IntKind.u8.wrap (x : Int) = x := by
    have h : IntKind.u8.wrap (x : Int) = (x : Int) % 256 := by simp [IntKind.wrap, IntKind.signed, IntKind.bits]
    rw [h]
    omega
  have hw9 : IntKind.i64.wrap (blen x : Int) = blen x := wrap_id (by omega) (by omega)
  have hw : IntKind.i64.wrap ((n : Int) + (blen x : Int)) = (blen p : Int) := by rw [wrap_id (by omega) (by omega)]; omega
  unfold len8L at h8
  simp only [go_sem, Nat.reduceEqDiff, q0, q2, hw8, h8, hw9, hw]
  exact finL_ret [] ⟨rfl, rfl, rfl, rfl, _, rfl, res_mk rfl⟩
open Go Go.Ab
def maskOf (p : Nat → Bool) : Nat → Nat
  | 0 => 0
  | k + 1 => if p k then maskOf p k ||| 2 ^ k else maskOf p k
theorem maskOf_lt (p : Nat → Bool) : ∀ k, maskOf p k < 2 ^ k
  | 0 => by simp [maskOf]
  | k + 1 => by
    have ih := maskOf_lt p k
    have h2 : 2 ^ (k + 1) = 2 ^ k + 2 ^ k := by rw [Nat.pow_succ]; omega
    simp only [maskOf]
    split
    · exact Nat.or_lt_two_pow (by omega) (by omega)
    · omega
theorem maskOf_bit (p : Nat → Bool) : ∀ k i, (maskOf p k).testBit i = (decide (i < k) && p i)
  | 0, i => by simp [maskOf]
  | k + 1, i => by
    simp only [maskOf]
    have ih := maskOf_bit p k i
    by_cases hi : i = k
    · subst hi
      cases hp : p i with
      | true => simp [ih]
      | false => simp [ih]
    · have e : decide (i < k + 1) = decide (i < k) := decide_eq_decide.2 (by omega)
      have e2 : (2 ^ k).testBit i = false := by rw [Nat.testBit_two_pow]; simp; omega
      split
      · rw [Nat.testBit_or, ih, e2, e]; simp
      · rw [ih, e]
def Bo.W (b : Bo) : Nat := b.wide.toNat
def Bo.D (b : Bo) : Nat := b.deep.toNat
def Bo.N (b : Bo) : Nat := b.W * b.D
theorem Bo.OK.W {b : Bo} (h : b.OK) : 1 ≤ b.W ∧ b.W ≤ 8 ∧ b.wide = b.W := by have := h.wide; unfold Bo.W; omega
theorem Bo.OK.D {b : Bo} (h : b.OK) : 1 ≤ b.D ∧ b.D ≤ 6 ∧ b.deep = b.D := by have := h.deep; unfold Bo.D; omega
theorem Bo.OK.N {b : Bo} (h : b.OK) : 1 ≤ b.N ∧ b.N ≤ 48 ∧ b.wide * b.deep = b.N := by
  obtain ⟨h1, h2, h3⟩ := h.W
  obtain ⟨h4, h5, h6⟩ := h.D
  refine ⟨Nat.mul_le_mul h1 h4, Nat.mul_le_mul h2 h5, ?_⟩
  rw [h3, h6]; unfold Bo.N; push_cast; rfl
def allW (_b : Bo) (j : Nat) : Nat := maskOf (fun _ => true) j
def leftW (b : Bo) (j : Nat) : Nat := maskOf (fun p => decide (p % b.W = 0)) j
def rightW (b : Bo) (j : Nat) : Nat := maskOf (fun p => decide (p % b.W = b.W - 1)) j
abbrev allM (b : Bo) : Nat := allW b b.N
abbrev leftM (b : Bo) : Nat := leftW b b.N
abbrev rightM (b : Bo) : Nat := rightW b b.N
theorem pow48 {n : Nat} (h : n ≤ 48) : 2 ^ n ≤ B48 := Nat.pow_le_pow_right (n := 2) (j := 48) (by decide) h
theorem maskOf_48 (p : Nat → Bool) {n : Nat} (h : n ≤ 48) : maskOf p n < B48 := Nat.lt_of_lt_of_le (maskOf_lt p n) (pow48 h)
abbrev shQ : Sh := (some [some .i64, some .i64, some .i64, some .i64], none)
abbrev waE (b : Bo) (m : Nat) : E := .vp [.t (vi b.wide), .t (vi b.deep), .t (vi b.speed), .t (vi b.last), .t (.slice 1 (b.seen.map tSis)), .t (vu (allM b : Nat)), .t (vu (leftM b : Nat)), .t (vu (rightM b : Nat)), .map m] 0
def openR (b : Bo) (is : Bool) : Out → List AO → Prop := fun o σ' => if b.ok then (if is then o = .ret (waE b 0) ∧ σ' = [.map shQ [] [] 0] else o = .pan (rfs 2) ∧ σ' = []) else o = .pan (rfs 1) ∧ σ' = []
theorem openR_bad {b : Bo} (is : Bool) (h : ¬ b.OK) : openR b is (.pan (rfs 1)) [] := by
  have : b.ok = false := by rw [← Bool.not_eq_true, b.ok_iff]; exact h
  simp only [openR, this, Bool.false_eq_true, if_false, and_self]
theorem openR_rng {b : Bo} (hok : b.ok = true) : openR b false (.pan (rfs 2)) [] := by
  simp only [openR, hok, if_true, Bool.false_eq_true, if_false, and_self]
theorem openR_ok {b : Bo} (hok : b.ok = true) : openR b true (.ret (waE b 0)) [.map shQ [] [] 0] := by
  simp only [openR, hok, if_true, and_self]
def OpMid (b : Bo) (is : Bool) (st : St) : Prop := lk st.env 2 = .ptr 0 0 ∧ lk st.env 1 = .t (vb is) ∧ st.σ = [.cells ((bo5 b).map .t)] ∧ st.df = [] ∧ st.k = 0
set_option maxRecDepth 8000 in
set_option maxHeartbeats 8000000 in
theorem open_ok (b : Bo) (is : Bool) (hl : Lens b) : ACall Tryz.prog 33 [.t (.agg (bo5 b)), .t (vb is)] [] (openR b is) := by
  refine ACall.walk k33 ?_
  unfold c33
  have hln := hl.1
  refine awpL_chop 2 (c1 := ?a1) (c2 := ?a2) (fun st => b.headB = true ∧ OpMid b is st) ?hc ?_ ?_
  case hc => simp only [chop]; rfl
  · unfold bo5
    have bad : b.headB = false → openR b is (.pan (rfs 1)) [] := fun h => openR_bad is fun k => by
      have := (b.ok_iff).2 k
      unfold Bo.ok at this
      rw [h] at this; cases this
    unfold Bo.headB at bad ⊢
    simp only [go_sem, Nat.reduceEqDiff, Nat.reduceAdd, Nat.reduceLeDiff]
    refine ACallL.quiet1 (within_ok _ _ _) rfl rfl rfl ?_
    cases h1 : wI b.wide 1 8
    · simp only [go_sem, Nat.reduceEqDiff, undef, undef]
      refine ACallL.quiet1 (ask_ok false 1) rfl rfl rfl ?_
      simp only [askO, go_sem]
      exact finL_pan [] ⟨rfl, rfl, rfl, rfl, bad (by rw [h1]; rfl)⟩
    simp only [go_sem, Nat.reduceEqDiff, Nat.reduceAdd, Nat.reduceLeDiff, beq_self_eq_true]
    refine ACallL.quiet1 (within_ok _ _ _) rfl rfl rfl ?_
    cases h2 : wI b.deep 1 6
    · simp only [go_sem, Nat.reduceEqDiff, undef, undef]
      refine ACallL.quiet1 (ask_ok false 1) rfl rfl rfl ?_
      simp only [askO, go_sem]
      exact finL_pan [] ⟨rfl, rfl, rfl, rfl, bad (by rw [h1, h2]; rfl)⟩
    simp only [go_sem, Nat.reduceEqDiff, Nat.reduceAdd, Nat.reduceLeDiff, beq_self_eq_true]
    refine ACallL.quiet1 (within_ok _ _ _) rfl rfl rfl ?_
    cases h3 : wI b.speed 0 3
    · simp only [go_sem, Nat.reduceEqDiff, undef, undef]
      refine ACallL.quiet1 (ask_ok false 1) rfl rfl rfl ?_
      simp only [askO, go_sem]
      exact finL_pan [] ⟨rfl, rfl, rfl, rfl, bad (by rw [h1, h2, h3]; rfl)⟩
    simp only [go_sem, Nat.reduceEqDiff, Nat.reduceAdd, Nat.reduceLeDiff, beq_self_eq_true]
    refine ACallL.quiet1 (within_ok _ _ _) rfl rfl rfl ?_
    cases h4 : wI b.last 0 12
    · simp only [go_sem, Nat.reduceEqDiff, undef, undef]
      refine ACallL.quiet1 (ask_ok false 1) rfl rfl rfl ?_
      simp only [askO, go_sem]
      exact finL_pan [] ⟨rfl, rfl, rfl, rfl, bad (by rw [h1, h2, h3, h4]; rfl)⟩
    simp only [go_sem, Nat.reduceEqDiff, Nat.reduceAdd, beq_self_eq_true, List.length_map]
    refine ACallL.quiet1 (ask_ok _ 1) rfl rfl (by simp only [askO]; split <;> rfl) ?_
    cases h5 : decide ((b.seen.length : Int) ≤ 4)
    · have h5' : decide (b.seen.length ≤ 4) = false := by have := of_decide_eq_false h5; exact decide_eq_false (by omega)
      simp only [askO, go_sem]
      exact finL_pan [] ⟨rfl, rfl, rfl, rfl, bad (by rw [h1, h2, h3, h4, h5']; rfl)⟩
    have h5' : decide (b.seen.length ≤ 4) = true := by have := of_decide_eq_true h5; exact decide_eq_true (by omega)
    simp only [askO, go_sem, Bool.and_true, Bool.true_and]
    exact ⟨of_decide_eq_true h5', rfl, rfl, rfl, rfl, rfl⟩
  rintro ⟨env, σ, df, k⟩ ⟨vh, q2, q1, hσ, hdf, hk⟩
  simp only at q2 q1 hσ hdf hk
  subst hσ hdf hk
  have vh' := vh
  unfold Bo.headB at vh'
  simp only [Bool.and_eq_true, decide_eq_true_eq, wI_iff] at vh'
  obtain ⟨⟨⟨⟨⟨w1, w2⟩, ⟨d1, d2⟩⟩, _⟩, ⟨l1, l2⟩⟩, n4⟩ := vh'
  -- the sightings
  refine awpL_chop 1 (c1 := ?b1) (c2 := ?b2) (fun st => b.ok = true ∧ OpMid b is st) ?hc2 ?_ ?_
  case hc2 => simp only [chop]; rfl
  · unfold bo5
    simp only [go_sem, Nat.reduceEqDiff, Nat.reduceAdd, q2, List.length_map]
    refine awpL_for (i := 40) (L := 39) b.seen.length (fun j st => (b.seen.take j).all (fun l => decide (l.length ≤ 5) && sawB b 0 l) = true ∧ st = { env := [(40, .t (vi j)), (39, .t (vi b.seen.length)), (38, .t (.slice 1 (b.seen.map tSis))), (2, .ptr 0 0), (1, .t (vb is))], σ := [.cells ((bo5 b).map .t)] }) ?_ ⟨_, Sub.gc [0] [40, 39, 38, 2, 1] rfl rfl, rfl, ?_⟩ ?_ ?_
    · rintro k st ⟨_, rfl⟩; exact ⟨rfl, rfl⟩
    · exact St.gc_mk (by simp only [List.map_cons, List.map_nil, lk, Nat.reduceEqDiff, reduceIte, q2, q1]; rfl) rfl rfl rfl
    · rintro j st hj ⟨hK, rfl⟩
      have hx : b.seen[j]? = some b.seen[j] := List.getElem?_eq_getElem hj
      have tx : b.seen.take (j + 1) = b.seen.take j ++ [b.seen[j]] := by rw [List.take_add_one, hx]; rfl
      have mx := List.getElem_mem hj
      have hw : IntKind.i64.wrap ((j : Int) + 1) = ((j + 1 : Nat) : Int) := by rw [wrap_id (by omega) (by omega)]; omega
      generalize b.seen[j] = l at *
      have hll := hl.2 l mx
      have bad : (decide (l.length ≤ 5) && sawB b 0 l) = false → openR b is (.pan (rfs 1)) [] := fun h => openR_bad is fun k => by
        rw [decide_eq_true (k.lens l mx), k.saw l mx] at h; cases h
      simp only [bo5, go_sem, Nat.reduceEqDiff, List.length_map, List.getElem?_map, hx, Option.map_some, tSis]
      refine ACallL.quiet1 (ask_ok _ 1) rfl rfl (by simp only [askO]; split <;> rfl) ?_
      cases h5 : decide ((l.length : Int) ≤ 5)
      · have h5' : decide (l.length ≤ 5) = false := by have := of_decide_eq_false h5; exact decide_eq_false (by omega)
        simp only [askO, go_sem]
        exact finL_pan [] ⟨rfl, rfl, rfl, rfl, bad (by rw [h5']; rfl)⟩
      have h5' : decide (l.length ≤ 5) = true := by have := of_decide_eq_true h5; exact decide_eq_true (by omega)
      rw [h5', Bool.true_and] at bad
      have hl5 := of_decide_eq_true h5'
      simp only [askO, go_sem, Nat.reduceEqDiff, List.length_map]
      refine awpL_for (i := 50) (L := 49) l.length (fun i st => ∃ m : Int, (0 ≤ m ∧ m ≤ 12) ∧ sawB b 0 l = sawB b m (l.drop i) ∧ st = { env := [(50, .t (vi i)), (49, .t (vi l.length)), (48, .t (.slice 5 (l.map tSi))), (7, .t (vi m)), (40, .t (vi j)), (39, .t (vi b.seen.length)), (38, .t (.slice 1 (b.seen.map tSis))), (2, .ptr 0 0), (1, .t (vb is))], σ := [.cells ((bo5 b).map .t)] }) ?_ ⟨_, Sub.gc [0] [50, 49, 48, 7, 40, 39, 38, 2, 1] rfl rfl, 0, by omega, rfl, rfl⟩ ?_ ?_
      · rintro k st ⟨_, _, _, rfl⟩; exact ⟨rfl, rfl⟩
      · rintro i st hi ⟨m, hm, hS, rfl⟩
        have hwi : IntKind.i64.wrap ((i : Int) + 1) = ((i + 1 : Nat) : Int) := by rw [wrap_id (by omega) (by omega)]; omega
        have hs : l[i]? = some l[i] := List.getElem?_eq_getElem hi
        have hd : l.drop i = l[i] :: l.drop (i + 1) := List.drop_eq_getElem_cons hi
        generalize l[i] = s at *
        rw [hd] at hS
        have hS2 : sawB b 0 l = (s.okB b m && sawB b s.minute (l.drop (i + 1))) := hS
        have bad2 : s.okB b m = false → openR b is (.pan (rfs 1)) [] := fun h => bad (by rw [hS2, h]; rfl)
        have wc : IntKind.i64.wrap (b.wide - 1) = b.wide - 1 := wrap_id (by omega) (by omega)
        have wr : IntKind.i64.wrap (b.deep - 1) = b.deep - 1 := wrap_id (by omega) (by omega)
        have hsp1 := isSpan_ok (s.c1, s.c2) (b.wide - 1)
        have hsp2 := isSpan_ok (s.r1, s.r2) (b.deep - 1)
        unfold Si.okB at bad2 hS2
        obtain ⟨sm, c1, c2, r1, r2⟩ := s
        simp only [tSp] at hsp1 hsp2 bad2 hS2
        simp only [bo5, go_sem, Nat.reduceEqDiff, Nat.reduceAdd, Nat.reduceLeDiff, undef, undef, List.getElem?_map, hs, Option.map_some, tSi]
        refine ACallL.quiet1 (within_ok _ _ _) rfl rfl rfl ?_
        cases h1 : wI sm m b.last
        · simp only [go_sem, Nat.reduceEqDiff, undef, undef]
          refine ACallL.quiet1 (ask_ok false 1) rfl rfl rfl ?_
          simp only [askO, go_sem]
          exact finL_pan [] ⟨rfl, rfl, rfl, rfl, bad2 (by rw [h1]; rfl)⟩
        simp only [go_sem, Nat.reduceEqDiff, Nat.reduceAdd, Nat.reduceLeDiff, beq_self_eq_true, wc]
        refine ACallL.quiet1 hsp1 rfl rfl rfl ?_
        cases h2 : spB c1 c2 (b.wide - 1)
        · simp only [go_sem, Nat.reduceEqDiff, undef, undef]
          refine ACallL.quiet1 (ask_ok false 1) rfl rfl rfl ?_
          simp only [askO, go_sem]
          exact finL_pan [] ⟨rfl, rfl, rfl, rfl, bad2 (by rw [h1, h2]; rfl)⟩
        simp only [go_sem, Nat.reduceEqDiff, Nat.reduceAdd, Nat.reduceLeDiff, beq_self_eq_true, wr]
        refine ACallL.quiet1 hsp2 rfl rfl rfl ?_
        simp only [go_sem, Nat.reduceEqDiff]
        refine ACallL.quiet1 (ask_ok _ 1) rfl rfl (by simp only [askO]; split <;> rfl) ?_
        cases h3 : spB r1 r2 (b.deep - 1)
        · simp only [askO, go_sem]
          exact finL_pan [] ⟨rfl, rfl, rfl, rfl, bad2 (by rw [h1, h2, h3]; rfl)⟩
        simp only [askO, go_sem, Nat.reduceEqDiff, Nat.reduceAdd, Nat.reduceLeDiff, hwi]
        rw [h1, h2, h3] at hS2
        exact ⟨_, Sub.gc [0] [50, 49, 48, 7, 40, 39, 38, 2, 1] rfl rfl, sm, by have := wI_iff.1 h1; omega, hS2, rfl⟩
      · rintro st ⟨m, hm, hS, rfl⟩
        rw [List.drop_length] at hS
        simp only [bo5, go_sem, Nat.reduceEqDiff, hw]
        refine ⟨_, Sub.gc [0] [40, 39, 38, 2, 1] rfl rfl, ?_, rfl⟩
        rw [tx, List.all_append, hK, Bool.true_and, List.all_cons, h5', hS]
        rfl
    · rintro st ⟨hK, rfl⟩
      rw [List.take_length] at hK
      simp only [go_sem]
      exact ⟨by unfold Bo.ok; rw [vh, hK]; rfl, rfl, rfl, rfl, rfl, rfl⟩
  clear q2 q1
  rintro ⟨env, σ, df, k⟩ ⟨hok, q2, q1, hσ, hdf, hk⟩
  simp only at q2 q1 hσ hdf hk
  subst hσ hdf hk
  have hb := (b.ok_iff).1 hok
  obtain ⟨e1, e2, e3⟩ := hb.W
  obtain ⟨e4, e5, e6⟩ := hb.N
  have wn : IntKind.i64.wrap (b.wide * b.deep) = (b.N : Int) := by rw [e6]; exact wrap_id (by omega) (by omega)
  unfold bo5
  simp only [go_sem, q1]
  refine ACallL.quiet1 (ask_ok _ 2) rfl rfl (by simp only [askO]; split <;> rfl) ?_
  cases is
  · simp only [askO, go_sem]
    exact finL_pan [] ⟨rfl, rfl, rfl, rfl, openR_rng hok⟩
  simp only [askO, go_sem, Nat.reduceEqDiff, Nat.reduceAdd, Nat.reduceLeDiff, q2, wn]
  refine awpL_for (i := 92) (L := 91) b.N (fun j st => st = { env := [(92, .t (vi j)), (91, .t (vi b.N)), (2, .ptr 0 0), (10, .ptr 2 0)], σ := [.cells ((bo5 b).map .t), .map shQ [] [] 0, .cells [.t (vi b.wide), .t (vi b.deep), .t (vi b.speed), .t (vi b.last), .t (.slice 1 (b.seen.map tSis)), .t (vu (allW b j : Nat)), .t (vu (leftW b j : Nat)), .t (vu (rightW b j : Nat)), .map 1]] }) ?_
    ⟨_, Sub.gc [0, 1, 2] [92, 91, 2, 10] rfl rfl, St.gc_mk (by simp only [List.map_cons, List.map_nil, lk, Nat.reduceEqDiff, reduceIte, q2]; rfl) rfl rfl rfl⟩ ?_ ?_
  · rintro k st rfl; exact ⟨rfl, rfl⟩
  · rintro j st hj rfl
    have hwj : IntKind.i64.wrap ((j : Int) + 1) = ((j + 1 : Nat) : Int) := by rw [wrap_id (by omega) (by omega)]; omega
    have hjn : ((j : Int) < 0) = False := by simp
    have n0 : ¬ (b.wide = 0) := by omega
    have sl := ushl_one (i := j) (by omega)
    have hp : 2 ^ j < B48 := Nat.pow_lt_pow_right (a := 2) (m := j) (n := 48) (by decide) (by omega)
    have hp' : 2 ^ j < 281474976710656 := hp
    have b1 : allW b j < 281474976710656 := maskOf_48 _ (by omega)
    have b2 : leftW b j < 281474976710656 := maskOf_48 _ (by omega)
    have b3 : rightW b j < 281474976710656 := maskOf_48 _ (by omega)
    have o1 := ubits_or (a := allW b j) (b := 2 ^ j) (by omega) (by omega)
    have o2 := ubits_or (a := leftW b j) (b := 2 ^ j) (by omega) (by omega)
    have o3 := ubits_or (a := rightW b j) (b := 2 ^ j) (by omega) (by omega)
    have t1 : (j : Int).tmod b.wide = ((j % b.W : Nat) : Int) := by rw [e3, Int.tmod_eq_emod_of_nonneg (by omega)]; rfl
    have wc : IntKind.i64.wrap (b.wide - 1) = ((b.W - 1 : Nat) : Int) := by rw [wrap_id (by omega) (by omega)]; omega
    have s1 : allW b (j + 1) = allW b j ||| 2 ^ j := rfl
    have s2 : leftW b (j + 1) = if decide (j % b.W = 0) then leftW b j ||| 2 ^ j else leftW b j := rfl
    have s3 : rightW b (j + 1) = if decide (j % b.W = b.W - 1) then rightW b j ||| 2 ^ j else rightW b j := rfl
    have c1 : (((j % b.W : Nat) : Int) == 0) = decide (j % b.W = 0) := by
      rw [Bool.eq_iff_iff, beq_iff_eq, decide_eq_true_eq]; omega
    have c2 : (((j % b.W : Nat) : Int) == ((b.W - 1 : Nat) : Int)) = decide (j % b.W = b.W - 1) := by
      rw [Bool.eq_iff_iff, beq_iff_eq, decide_eq_true_eq]; omega
    generalize allW b (j + 1) = A1 at *
    generalize leftW b (j + 1) = L1 at *
    generalize rightW b (j + 1) = R1 at *
    generalize allW b j = A0 at *
    generalize leftW b j = L0 at *
    generalize rightW b j = R0 at *
    subst s1
    generalize decide (j % b.W = 0) = d1 at *
    generalize decide (j % b.W = b.W - 1) = d2 at *
    simp only [bo5, go_sem, Nat.reduceEqDiff, Nat.reduceAdd, Nat.reduceLeDiff, undef, undef, hjn, n0, sl, o1, t1, c1]
    cases d1 <;> cases d2
    all_goals
      simp only [if_true, if_false, Bool.false_eq_true] at s2 s3
      subst s2 s3
      simp only [bo5, go_sem, Nat.reduceEqDiff, Nat.reduceAdd, Nat.reduceLeDiff, undef, undef, hwj, hjn, n0, sl, o2, o3, t1, wc, c2]
      exact ⟨_, Sub.gc [0, 1, 2] [92, 91, 2, 10] rfl rfl, rfl⟩
  · rintro st rfl
    simp only [bo5, go_sem, Nat.reduceEqDiff]
    exact finL_ret [1] ⟨rfl, rfl, rfl, rfl, _, rfl, openR_ok hok⟩
theorem lendB_nil (σ l : List AO) : lendB σ [] l = σ ++ l := by simp [lendB]
theorem openL (b : Bo) (is : Bool) (hl : Lens b) {σ : List AO} {R : Lz (Out → List AO → Prop)} (hbad : b.ok = false → R.get (.pan (rfs 1)) σ) (hrng : b.ok = true → is = false → R.get (.pan (rfs 2)) σ)
    (hgood : b.ok = true → is = true → R.get (.ret (waE b σ.length)) (σ ++ [.map shQ [] [] 0])) : @ACallL Tryz.prog 33 [.t (.agg (bo5 b)), .t (vb is)] σ R := by
  refine ACall.mono (ACall.lend [] (open_ok b is hl) (by simp) (by simp) rfl (fun j o ho => by simp at ho) (args := [.t (.agg (bo5 b)), .t (vb is)]) (by simp [E.rens, E.ren])) ?_
  rintro o σ1 ⟨o0, σ0, hR, _, rfl, rfl⟩
  rw [lendB_nil]
  unfold openR at hR
  cases hok : b.ok
  · rw [hok] at hR
    obtain ⟨rfl, rfl⟩ := hR
    rw [List.map_nil, List.append_nil]
    exact hbad hok
  · rw [hok, if_pos rfl] at hR
    cases is
    · obtain ⟨rfl, rfl⟩ := hR
      rw [List.map_nil, List.append_nil]
      exact hrng hok rfl
    · rw [if_pos rfl] at hR
      obtain ⟨rfl, rfl⟩ := hR
      exact hgood hok rfl
open Go Go.Ab
abbrev waT (b : Bo) (x : T) : T := .ptr (.agg [vi b.wide, vi b.deep, vi b.speed, vi b.last, .slice 1 (b.seen.map tSis), vu (allM b : Nat), vu (leftM b : Nat), vu (rightM b : Nat), x]) 0
def stepM (b : Bo) (p : Nat) : Nat := allM b &&& orL [p, ndiff p (leftM b) / 2, ndiff p (rightM b) <<< 1, p / 2 ^ b.W, p <<< b.W]
theorem allM_lt {b : Bo} (hb : b.OK) : allM b < B48 := maskOf_48 _ hb.N.2.1
theorem stepM_lt {b : Bo} (hb : b.OK) (p : Nat) : stepM b p < B48 := Nat.lt_of_le_of_lt Nat.and_le_left (allM_lt hb)
theorem shl_lt {p k : Nat} (hp : p < B48) (hk : k ≤ 8) : p <<< k < 72057594037927936 := by
  have hp' : p < 281474976710656 := hp
  rw [Nat.shiftLeft_eq]
  have h1 : 2 ^ k ≤ 256 := Nat.pow_le_pow_right (n := 2) (j := 8) (by decide) hk
  have : p * 2 ^ k ≤ p * 256 := Nat.mul_le_mul_left _ h1
  omega
set_option maxRecDepth 8000 in
theorem step_ok (b : Bo) (hb : b.OK) (x : T) (p : Nat) (hp : p < B48) : ACall Tryz.prog 92 [.t (waT b x), .t (vu p)] [] (ret (vu (stepM b p : Nat))) := by
  refine ACall.walk k92 ?_
  have hp' : p < 281474976710656 := hp
  have ha : allM b < 281474976710656 := allM_lt hb
  have hl : leftM b < 281474976710656 := maskOf_48 _ hb.N.2.1
  have hr : rightM b < 281474976710656 := maskOf_48 _ hb.N.2.1
  obtain ⟨w1, w2, w3⟩ := hb.W
  have hwn : (b.wide < 0) = False := by simp; omega
  have hwt : b.wide.toNat = b.W := rfl
  have x1 := ndiff_le p (leftM b)
  have x2 := ndiff_le p (rightM b)
  have a1 := ubits_andNot (a := p) (b := leftM b) (by omega) (by omega)
  have a2 := ubits_andNot (a := p) (b := rightM b) (by omega) (by omega)
  have s1 := ushr (a := ndiff p (leftM b)) (i := 1) (by omega)
  have y2 := shl_lt (p := ndiff p (rightM b)) (k := 1) (Nat.lt_of_le_of_lt x2 hp) (by omega)
  have s2 := ushl (a := ndiff p (rightM b)) (i := 1) (by omega) (by omega)
  have s3 := ushr (a := p) (i := b.W) (by omega)
  have y4 := shl_lt hp w2
  have s4 := ushl (a := p) (i := b.W) (by omega) (by omega)
  have y3 := Nat.div_le_self p (2 ^ b.W)
  have hu := union_ok [p, ndiff p (leftM b) / 2, ndiff p (rightM b) <<< 1, p / 2 ^ b.W, p <<< b.W] (by
    intro z hz
    simp only [List.mem_cons, List.mem_nil_iff, or_false] at hz
    rcases hz with rfl | rfl | rfl | rfl | rfl <;> omega) (by simp)
  have ho : orL [p, ndiff p (leftM b) / 2, ndiff p (rightM b) <<< 1, p / 2 ^ b.W, p <<< b.W] < 2 ^ 62 := orL_lt (by
    intro z hz
    simp only [List.mem_cons, List.mem_nil_iff, or_false] at hz
    rcases hz with rfl | rfl | rfl | rfl | rfl <;> omega)
  have a3 := ubits_and (a := allM b) (b := orL [p, ndiff p (leftM b) / 2, ndiff p (rightM b) <<< 1, p / 2 ^ b.W, p <<< b.W]) (by omega) (by omega)
  have hst : stepM b p = allM b &&& orL [p, ndiff p (leftM b) / 2, ndiff p (rightM b) <<< 1, p / 2 ^ b.W, p <<< b.W] := rfl
  rw [← hst] at a3
  simp only [List.map_cons, List.map_nil, Nat.pow_one] at hu s1
  generalize stepM b p = S at *
  generalize orL [p, ndiff p (leftM b) / 2, ndiff p (rightM b) <<< 1, p / 2 ^ b.W, p <<< b.W] = O at *
  generalize ndiff p (leftM b) = u1 at *
  generalize ndiff p (rightM b) = u2 at *
  generalize p <<< b.W = u4 at *
  generalize p / 2 ^ b.W = u3 at *
  generalize u2 <<< 1 = u5 at *
  unfold c92
  simp only [go_sem, Nat.reduceEqDiff, Nat.reduceAdd, Nat.reduceLT, Int.reduceToNat, Int.reduceLT, a1, a2, s1, s2, hwn, hwt, s3, s4]
  refine ACallL.quiet1 hu rfl rfl rfl ?_
  simp only [go_sem, Nat.reduceEqDiff, Nat.reduceAdd, a3]
  exact finL_ret [] ⟨rfl, rfl, rfl, rfl, _, rfl, res_mk rfl⟩
def rowM (b : Bo) (n : Nat) : Nat := (allM b / 2 ^ (n * b.W)) <<< (n * b.W)
theorem rowM_bit (b : Bo) (n i : Nat) : (rowM b n).testBit i = (decide (n * b.W ≤ i) && decide (i < b.N)) := by
  unfold rowM
  rw [Nat.testBit_shiftLeft, Nat.testBit_div_two_pow]
  show (decide (i ≥ n * b.W) && (maskOf _ _).testBit _) = _
  rw [maskOf_bit, Bool.and_true]
  by_cases c : n * b.W ≤ i
  · rw [show i - n * b.W + n * b.W = i by omega]
  · rw [decide_eq_false (show ¬ i ≥ n * b.W from c), Bool.false_and, Bool.false_and]
theorem rowM_lt {b : Bo} (hb : b.OK) (n : Nat) : rowM b n < B48 := by
  refine Nat.lt_of_le_of_lt ?_ (allM_lt hb)
  unfold rowM
  rw [Nat.shiftLeft_eq]
  exact Nat.div_mul_le_self _ _
theorem row_ok (b : Bo) (hb : b.OK) (x : T) (n : Nat) (hn : n ≤ 7) : ACall Tryz.prog 146 [.t (waT b x), .t (vi n)] [] (ret (vu (rowM b n : Nat))) := by
  refine ACall.walk k146 ?_
  have ha : allM b < 281474976710656 := allM_lt hb
  have hrl : rowM b n < 281474976710656 := rowM_lt hb n
  obtain ⟨w1, w2, w3⟩ := hb.W
  have hk : n * b.W ≤ 56 := Nat.mul_le_mul hn w2
  have wk : IntKind.i64.wrap ((n : Int) * b.wide) = ((n * b.W : Nat) : Int) := by
    rw [w3, ← Int.natCast_mul]; exact wrap_id (by omega) (by omega)
  have s1 := ushr (a := allM b) (i := n * b.W) (by omega)
  have s2 := ushl (a := allM b / 2 ^ (n * b.W)) (i := n * b.W) (by omega) (show rowM b n < _ by omega)
  rw [show (allM b / 2 ^ (n * b.W)) <<< (n * b.W) = rowM b n from rfl] at s2
  generalize rowM b n = R at *
  generalize n * b.W = k at *
  have hkn : ((k : Int) < 0) = False := by simp
  generalize allM b / 2 ^ k = y at *
  unfold c146
  simp only [go_sem, Nat.reduceEqDiff, Nat.reduceAdd, wk, hkn, s1, s2]
  exact finL_ret [] ⟨rfl, rfl, rfl, rfl, _, rfl, res_mk rfl⟩
def rowsT (n : Nat) : T := .agg [vi n]
theorem atRows_ok (b : Bo) (hb : b.OK) (x : T) (n : Nat) (hn : n ≤ 7) (m : Int) : ACall Tryz.prog 145 [.t (rowsT n), .t (waT b x), .t (vi m)] [] (ret (vu (rowM b n : Nat))) := by
  refine ACall.walk k145 ?_
  unfold c145 rowsT
  simp only [go_sem, Nat.reduceEqDiff, Nat.reduceAdd]
  refine ACallL.fresh1 (row_ok b hb x n hn) rfl ?_
  simp only [go_sem, Nat.reduceEqDiff]
  exact finL_ret [] ⟨rfl, rfl, rfl, rfl, _, rfl, res_mk rfl⟩
def inB (b : Bo) (s : Si) (p : Nat) : Bool := decide (s.r1.toNat ≤ p / b.W) && decide (p / b.W ≤ s.r2.toNat) && (decide (s.c1.toNat ≤ p % b.W) && decide (p % b.W ≤ s.c2.toNat))
def insM (b : Bo) (s : Si) (r c : Nat) : Nat := maskOf (fun p => inB b s p && (decide (p / b.W < r) || (decide (p / b.W = r) && decide (p % b.W < c)))) b.N
def rectM (b : Bo) (s : Si) : Nat := maskOf (inB b s) b.N
def atM (b : Bo) (m : Nat) (s : Si) : Nat := if s.minute = m then rectM b s else allM b
theorem atM_lt {b : Bo} (hb : b.OK) (m : Nat) (s : Si) : atM b m s < B48 := by
  unfold atM
  split
  · exact maskOf_48 _ hb.N.2.1
  · exact allM_lt hb
theorem pos_of {W r c : Nat} (hc : c < W) : (r * W + c) / W = r ∧ (r * W + c) % W = c := by
  have hW : 0 < W := by omega
  rw [Nat.mul_comm, Nat.mul_add_div hW, Nat.mul_add_mod, Nat.div_eq_of_lt hc, Nat.mod_eq_of_lt hc]
  omega
theorem pos_eq {W r c i : Nat} (hc : c < W) : r * W + c = i ↔ i / W = r ∧ i % W = c := by
  constructor
  · rintro rfl; exact pos_of hc
  · rintro ⟨rfl, rfl⟩
    rw [Nat.mul_comm]; exact Nat.div_add_mod i W
theorem pos_lt {W D r c : Nat} (hc : c < W) (hr : r < D) : r * W + c < W * D := by
  have h1 : (r + 1) * W ≤ D * W := Nat.mul_le_mul_right _ hr
  rw [Nat.add_mul, Nat.one_mul, Nat.mul_comm D] at h1
  omega
theorem insM_step {b : Bo} (hb : b.OK) {s : Si} (hs : s.OK b) {r c : Nat} (hr : s.r1.toNat ≤ r ∧ r ≤ s.r2.toNat) (hc : s.c1.toNat ≤ c ∧ c ≤ s.c2.toNat) : insM b s r (c + 1) = insM b s r c ||| 2 ^ (r * b.W + c) := by
  have hcW : c < b.W := by have := hs.col; have := hb.W; omega
  have hrD : r < b.D := by have := hs.row; have := hb.D; omega
  apply Nat.eq_of_testBit_eq
  intro i
  unfold insM
  rw [maskOf_bit, Nat.testBit_or, maskOf_bit, Nat.testBit_two_pow]
  by_cases e : r * b.W + c = i
  · obtain ⟨h1, h2⟩ := (pos_eq hcW).1 e
    have hi : i < b.N := by rw [← e]; exact pos_lt hcW hrD
    unfold inB
    rw [h1, h2, decide_eq_true hi, decide_eq_true hr.1, decide_eq_true hr.2, decide_eq_true hc.1, decide_eq_true hc.2, decide_eq_true e]
    simp
  · rw [decide_eq_false e, Bool.or_false]
    congr 2
    by_cases e1 : i / b.W = r
    · have : i % b.W ≠ c := fun h => e ((pos_eq hcW).2 ⟨e1, h⟩)
      rw [show decide (i % b.W < c + 1) = decide (i % b.W < c) from decide_eq_decide.2 (by omega)]
    · rw [decide_eq_false e1]; rfl
theorem insM_first (b : Bo) (s : Si) (r : Nat) : insM b s r s.c1.toNat = insM b s r 0 := by
  apply Nat.eq_of_testBit_eq
  intro i
  unfold insM inB
  rw [maskOf_bit, maskOf_bit]
  by_cases c : s.c1.toNat ≤ i % b.W
  · rw [decide_eq_false (show ¬ i % b.W < s.c1.toNat by omega), decide_eq_false (show ¬ i % b.W < 0 by omega)]
  · rw [decide_eq_false c]; simp
theorem insM_last (b : Bo) (s : Si) (r : Nat) : insM b s r (s.c2.toNat + 1) = insM b s (r + 1) 0 := by
  apply Nat.eq_of_testBit_eq
  intro i
  unfold insM inB
  rw [maskOf_bit, maskOf_bit]
  by_cases c : i % b.W ≤ s.c2.toNat
  · rw [decide_eq_true (show i % b.W < s.c2.toNat + 1 by omega), decide_eq_false (show ¬ i % b.W < 0 by omega), Bool.and_true, Bool.and_false, Bool.or_false]
    congr 2
    rw [Bool.eq_iff_iff, Bool.or_eq_true, decide_eq_true_eq, decide_eq_true_eq, decide_eq_true_eq]
    omega
  · rw [decide_eq_false c]; simp
theorem insM_none (b : Bo) (s : Si) : insM b s s.r1.toNat 0 = 0 := by
  apply Nat.eq_of_testBit_eq
  intro i
  unfold insM inB
  rw [maskOf_bit, Nat.zero_testBit, decide_eq_false (show ¬ i % b.W < 0 by omega)]
  by_cases c : s.r1.toNat ≤ i / b.W
  · rw [decide_eq_false (show ¬ i / b.W < s.r1.toNat by omega)]; simp
  · rw [decide_eq_false c]; simp
theorem insM_all (b : Bo) (s : Si) : insM b s (s.r2.toNat + 1) 0 = rectM b s := by
  apply Nat.eq_of_testBit_eq
  intro i
  unfold insM rectM inB
  rw [maskOf_bit, maskOf_bit, decide_eq_false (show ¬ i % b.W < 0 by omega)]
  by_cases c : i / b.W ≤ s.r2.toNat
  · rw [decide_eq_true (show i / b.W < s.r2.toNat + 1 by omega)]; simp
  · rw [decide_eq_false c]; simp
set_option maxRecDepth 8000 in
set_option maxHeartbeats 4000000 in
theorem atSi_ok (b : Bo) (hb : b.OK) (x : T) (s : Si) (hs : s.OK b) (m : Nat) : ACall Tryz.prog 147 [.t (tSi s), .t (waT b x), .t (vi m)] [] (ret (vu (atM b m s : Nat))) := by
  refine ACall.walk k147 ?_
  have ha := allM_lt hb
  obtain ⟨w1, w2, w3⟩ := hb.W
  obtain ⟨n1, n2, n3⟩ := hb.N
  obtain ⟨d1, d2, d3⟩ := hb.D
  have hcol := hs.col
  have hrow := hs.row
  have hstep := fun r c hr hc => insM_step hb hs (r := r) (c := c) hr hc
  have hf := insM_first b s
  have hla := insM_last b s
  have hno := insM_none b s
  have hal := insM_all b s
  have hlt : ∀ r c, insM b s r c < B48 := fun r c => maskOf_48 _ n2
  have hat : atM b m s = if s.minute = m then rectM b s else allM b := rfl
  generalize insM b s = I at *
  generalize rectM b s = R at *
  generalize atM b m s = Z at *
  obtain ⟨sm, c1, c2, r1, r2⟩ := s
  simp only at hcol hrow hstep hf hla hno hal hat
  obtain ⟨C1, rfl⟩ : ∃ n : Nat, c1 = n := ⟨c1.toNat, by omega⟩
  obtain ⟨C2, rfl⟩ : ∃ n : Nat, c2 = n := ⟨c2.toNat, by omega⟩
  obtain ⟨R1, rfl⟩ : ∃ n : Nat, r1 = n := ⟨r1.toNat, by omega⟩
  obtain ⟨R2, rfl⟩ : ∃ n : Nat, r2 = n := ⟨r2.toNat, by omega⟩
  simp only [Int.toNat_natCast] at hstep hf hla hno hal
  unfold c147 tSi
  simp only [go_sem, Nat.reduceEqDiff, Nat.reduceAdd, Nat.reduceLeDiff]
  cases hm : ((m : Int) != sm)
  rotate_left
  · rw [if_neg (by rw [bne_iff_ne] at hm; omega)] at hat
    subst hat
    simp only [go_sem, Nat.reduceEqDiff, Nat.reduceAdd]
    exact finL_ret [] ⟨rfl, rfl, rfl, rfl, _, rfl, res_mk rfl⟩
  rw [if_pos (by have := bne_eq_false_iff_eq.1 hm; omega)] at hat
  subst hat
  simp only [go_sem, Nat.reduceEqDiff, Nat.reduceAdd, Nat.reduceLeDiff]
  refine awpL_loopK (R2 + 1 - R1) (fun i st => st = { env := [(7, .t (vi (R1 + i : Nat))), (1, .t (waT b x)), (3, .t (.ptr (.agg [vi sm, vi C1, vi C2, vi R1, vi R2]) 0)), (6, .t (vu (I (R1 + i) 0 : Nat)))], σ := [] }) ⟨_, Sub.gc [] [7, 1, 3, 6] rfl rfl, by rw [Nat.add_zero, hno]; rfl⟩ ?_
  rintro i st hi rfl
  simp only [go_sem, Nat.reduceEqDiff, Nat.reduceAdd]
  cases g : decide (((R1 + i : Nat) : Int) ≤ (R2 : Int))
  · have hie : R1 + i = R2 + 1 := by have := of_decide_eq_false g; omega
    simp only [go_sem, Nat.reduceEqDiff]
    refine finL_ret [] ⟨rfl, rfl, rfl, rfl, _, rfl, res_mk ?_⟩
    rw [← hal, ← hie]
    rfl
  have hil : R1 + i ≤ R2 := by have := of_decide_eq_true g; omega
  have hwi : IntKind.i64.wrap (((R1 + i : Nat) : Int) + 1) = ((R1 + (i + 1) : Nat) : Int) := by rw [wrap_id (by omega) (by omega)]; omega
  have hR : R1 ≤ R1 + i := by omega
  have hlt0 := hlt (R1 + i)
  have hst0 := hstep (R1 + i)
  have hla0 := hla (R1 + i)
  rw [← hf (R1 + i)]
  rw [show R1 + i + 1 = R1 + (i + 1) from rfl] at hla0
  have hkk : i < R2 + 1 - R1 := by omega
  generalize hr : R1 + i = r at *
  simp only [go_sem, Nat.reduceEqDiff, Nat.reduceAdd]
  refine awpL_loopK (C2 + 1 - C1) (fun j st => st = { env := [(8, .t (vi (C1 + j : Nat))), (7, .t (vi r)), (1, .t (waT b x)), (3, .t (.ptr (.agg [vi sm, vi C1, vi C2, vi R1, vi R2]) 0)), (6, .t (vu (I r (C1 + j) : Nat)))], σ := [] }) ⟨_, Sub.gc [] [8, 7, 1, 3, 6] rfl rfl, rfl⟩ ?_
  rintro j st hj rfl
  simp only [go_sem, Nat.reduceEqDiff, Nat.reduceAdd]
  cases g2 : decide (((C1 + j : Nat) : Int) ≤ (C2 : Int))
  · have hje : C1 + j = C2 + 1 := by have := of_decide_eq_false g2; omega
    simp only [go_sem, Nat.reduceEqDiff, hwi]
    refine ⟨hkk, _, Sub.gc [] [7, 1, 3, 6] rfl rfl, ?_⟩
    rw [hje, hla0]
    rfl
  have hjl : C1 + j ≤ C2 := by have := of_decide_eq_true g2; omega
  have hwj : IntKind.i64.wrap (((C1 + j : Nat) : Int) + 1) = ((C1 + (j + 1) : Nat) : Int) := by rw [wrap_id (by omega) (by omega)]; omega
  have hC : C1 ≤ C1 + j := by omega
  have hst1 := hst0 (C1 + j) ⟨hR, hil⟩ ⟨hC, hjl⟩
  rw [show C1 + j + 1 = C1 + (j + 1) from rfl] at hst1
  have hlt1 : I r (C1 + j) < 281474976710656 := hlt0 (C1 + j)
  have hjj : j < C2 + 1 - C1 := by omega
  have hpl : r * b.W + (C1 + j) < b.N := pos_lt (by omega) (by omega)
  generalize hc : C1 + j = c at *
  have wk : IntKind.i64.wrap ((r : Int) * b.wide) = ((r * b.W : Nat) : Int) := by
    rw [w3, ← Int.natCast_mul]; exact wrap_id (by omega) (by omega)
  have wk2 : IntKind.i64.wrap (((r * b.W : Nat) : Int) + (c : Int)) = ((r * b.W + c : Nat) : Int) := by
    rw [← Int.natCast_add]; exact wrap_id (by omega) (by omega)
  generalize r * b.W + c = q at *
  generalize r * b.W = q0 at *
  have hqn : ((q : Int) < 0) = False := by simp
  have sl := ushl_one (i := q) (by omega)
  have hp : 2 ^ q < 2 ^ 48 := Nat.pow_lt_pow_right (by decide) (by omega)
  have o1 := ubits_or (a := I r c) (b := 2 ^ q) (by omega) (by omega)
  rw [← hst1] at o1
  simp only [go_sem, Nat.reduceEqDiff, hwj, wk, wk2, hqn, sl, o1]
  exact ⟨hjj, _, Sub.gc [] [8, 7, 1, 3, 6] rfl rfl, rfl⟩
open Go Go.Ab
structure Qu where
  boat : Nat
  without : Nat
  row : Nat
  speed : Nat
abbrev tQu (q : Qu) : T := .agg [vi q.boat, vi q.without, vi q.row, vi q.speed]
def kept (l : List Si) (w n : Nat) : List Si := (List.range n).filterMap fun i => if w.testBit i then none else l[i]?
theorem kept_succ (l : List Si) (w : Nat) {n : Nat} {s : Si} (h : l[n]? = some s) : kept l w (n + 1) = if w.testBit n then kept l w n else kept l w n ++ [s] := by
  unfold kept
  rw [List.range_succ, List.filterMap_append, List.filterMap_cons, List.filterMap_nil, h]
  cases w.testBit n <;> simp
theorem kept_mem {l : List Si} {w n : Nat} {s : Si} : s ∈ kept l w n ↔ ∃ i < n, w.testBit i = false ∧ l[i]? = some s := by
  unfold kept
  rw [List.mem_filterMap]
  constructor
  · rintro ⟨i, hi, h⟩
    refine ⟨i, List.mem_range.1 hi, ?_⟩
    split at h
    · cases h
    · rename_i hw; exact ⟨by simpa using hw, h⟩
  · rintro ⟨i, hi, hw, h⟩
    exact ⟨i, List.mem_range.2 hi, by rw [if_neg (by simp [hw])]; exact h⟩
def tHold (s : Si) : T := .iface 255 (tSi s)
def holdsT (n : Nat) (l : List Si) : List T := .iface 253 (rowsT n) :: l.map tHold
set_option maxRecDepth 8000 in
set_option maxHeartbeats 4000000 in
theorem holds_ok (b : Bo) (hb : b.OK) (x : T) (q : Qu) (l : List Si) (hl : b.seen[q.boat]? = some l) (hw : q.without < 4611686018427387904) : ACall Tryz.prog 91 [.t (waT b x), .t (tQu q)] [] (ret (.slice 1 (holdsT q.row (kept l q.without l.length)))) := by
  refine ACall.walk k91 ?_
  have hl5 := hb.lens l (List.mem_of_getElem? hl)
  have hbn : (q.boat : Int) < b.seen.length := by have := (List.getElem?_eq_some_iff.1 hl).1; omega
  unfold c91
  simp only [go_sem, Nat.reduceEqDiff, Nat.reduceAdd, Nat.reduceLT, Nat.reduceLeDiff, List.length_map, List.getElem?_map, hl, Option.map_some, tSis]
  refine awpL_for (i := 23) (L := 22) l.length (fun j st => st = { env := [(23, .t (vi j)), (22, .t (vi l.length)), (21, .t (.slice 5 (l.map tSi))), (3, .t (.ptr (tQu q) 0)), (5, .loc 0 (holdsT q.row (kept l q.without j)).length)], σ := [.row 1 ((holdsT q.row (kept l q.without j)).map .t)] }) ?_ ⟨_, Sub.gc [1] [23, 22, 21, 3, 5] rfl rfl, rfl⟩ ?_ ?_
  · rintro k st rfl; exact ⟨rfl, rfl⟩
  · rintro j st hj rfl
    have hwj : IntKind.i64.wrap ((j : Int) + 1) = ((j + 1 : Nat) : Int) := by rw [wrap_id (by omega) (by omega)]; omega
    have hs : l[j]? = some l[j] := List.getElem?_eq_getElem hj
    have hk := kept_succ l q.without hs
    have hjn : ((j : Int) < 0) = False := by simp
    have hjj : (j : Int) < l.length := by omega
    have hb0 := bit_eq0 (a := q.without) (i := j) (by omega)
    have hkl : (kept l q.without j).length ≤ j := Nat.le_trans (List.length_filterMap_le _ _) (by simp)
    generalize l[j] = s at *
    generalize kept l q.without (j + 1) = K1 at *
    generalize kept l q.without j = K0 at *
    obtain ⟨sm, c1, c2, r1, r2⟩ := s
    simp only [go_sem, Nat.reduceEqDiff, Nat.reduceAdd, undef, undef, List.getElem?_map, hs, Option.map_some, tSi, hjn, hb0]
    cases hB : q.without.testBit j
    · rw [hB, if_neg (by simp)] at hk
      simp only [go_sem, Nat.reduceEqDiff, Nat.reduceAdd, Nat.reduceLT, Bool.not_false, List.length_map, hwj]
      have hle : (holdsT q.row K0).length = K0.length + 1 := by simp [holdsT]
      refine ⟨⟨by unfold maxLen; omega, by omega⟩, _, Sub.gc [0] [23, 22, 21, 3, 5] rfl rfl, ?_⟩
      have he : holdsT q.row K1 = holdsT q.row K0 ++ [tHold ⟨sm, c1, c2, r1, r2⟩] := by rw [hk]; unfold holdsT; rw [List.map_append]; rfl
      rw [he, List.length_append, List.map_append]
      exact St.gc_mk rfl (by
        show [AO.row 1 ((List.map E.t _ ++ List.map E.t [_]).map (E.gc _ _ _))] = _
        rw [List.map_append, gc_row, gc_row]
        rfl) rfl rfl
    · rw [hB, if_pos rfl] at hk
      simp only [go_sem, Nat.reduceEqDiff, Bool.not_true, hwj]
      rw [hk]
      exact ⟨_, Sub.gc [0] [23, 22, 21, 3, 5] rfl rfl, St.gc_mk rfl (by
        show [AO.row 1 ((List.map E.t _).map (E.gc _ _ _))] = _
        rw [gc_row]) rfl rfl⟩
  · rintro st rfl
    simp only [go_sem, Nat.reduceEqDiff]
    refine finL_ret [] ⟨rfl, rfl, rfl, rfl, _, rfl, ⟨?_, rfl⟩⟩
    show Out.ret (E.gc [] _ 12 (.loc 0 _)) = _
    rw [gc_loc (n := 10) (xs := holdsT q.row (kept l q.without l.length)) rfl rfl rfl]
def Bo.L (b : Bo) : Nat := b.last.toNat
theorem Bo.OK.L {b : Bo} (h : b.OK) : b.L ≤ 12 ∧ b.last = b.L := by have := h.last; unfold Bo.L; omega
def minN (b : Bo) (back : Bool) (m : Nat) : Nat := if back then b.L - m else m
def minL (b : Bo) (back : Bool) : List Value := (List.range (b.L + 1)).map fun m => .int .i64 (minN b back m)
theorem minL_at (b : Bo) (back : Bool) {m : Nat} (h : m < b.L + 1) : (minL b back)[m]? = some (.int .i64 (minN b back m)) := by
  unfold minL
  rw [List.getElem?_map, List.getElem?_range h]; rfl
theorem minL_len (b : Bo) (back : Bool) : (minL b back).length = b.L + 1 := by simp [minL]
set_option maxRecDepth 8000 in
set_option maxHeartbeats 4000000 in
theorem minutes_gen (b : Bo) (hb : b.OK) (x : T) (back : Bool) : AGen Tryz.prog 111 [.yld, .t (.ptr (.agg [waT b x]) 0), .t (.ptr (.agg [vb back]) 0)] (minL b back) (stp true (minL b back)) := by
  refine AGen.walkS k111 ?_
  unfold c111
  obtain ⟨l1, l2⟩ := hb.L
  have w1 : IntKind.i64.wrap (b.last + 1) = ((b.L + 1 : Nat) : Int) := by rw [wrap_id (by omega) (by omega)]; omega
  simp only [go_sem, Nat.reduceEqDiff, Nat.reduceAdd, w1]
  have hlen := minL_len b back
  have hat := fun m => minL_at b back (m := m)
  generalize minL b back = ML at *
  refine awpL_for (i := 11) (L := 10) (b.L + 1) (fun j st => st = { env := [(11, .t (vi j)), (10, .t (vi (b.L + 1 : Nat))), (0, .yld), (1, .t (.ptr (.agg [waT b x]) 0)), (2, .t (.ptr (.agg [vb back]) 0))], σ := [], k := j }) ?_ ⟨_, Sub.gc [] [11, 10, 0, 1, 2] rfl rfl, rfl⟩ ?_ ?_
  · rintro k st rfl; exact ⟨rfl, rfl⟩
  · rintro j st hj rfl
    have hwj : IntKind.i64.wrap ((j : Int) + 1) = ((j + 1 : Nat) : Int) := by rw [wrap_id (by omega) (by omega)]; omega
    have ws : IntKind.i64.wrap (b.last - (j : Int)) = ((b.L - j : Nat) : Int) := by rw [wrap_id (by omega) (by omega)]; omega
    have hat := hat j hj
    cases back
    all_goals
      simp only [go_sem, Nat.reduceEqDiff, Nat.reduceAdd, Bool.not_true, Bool.not_false, hwj, ws]
      exact ⟨hat, finS_ret (.inr rfl) [] ⟨rfl, rfl, _, rfl⟩, _, Sub.gc [] [11, 10, 0, 1, 2] rfl rfl, rfl⟩
  · rintro st rfl
    simp only [go_sem]
    exact finS_ret (.inl hlen.symm) [] ⟨rfl, rfl, _, rfl⟩
theorem minutes_ok (b : Bo) (back : Bool) (ks : List (Nat × List Int)) (xs : List T) (clk : Nat) : ACall Tryz.prog 93 [waE b 0, .t (vb back)] [.map shQ ks xs clk] (fun o σ' => o = .ret (.fn (.func 111) [] [.vp [waE b 0] 0, .t (.ptr (.agg [vb back]) 0)]) ∧ σ' = [.map shQ ks xs clk]) := by
  refine ACall.walk k93 ?_
  unfold c93
  simp only [go_sem, Nat.reduceEqDiff, Nat.reduceAdd]
  exact finL_ret [0] ⟨rfl, rfl, rfl, rfl, _, rfl, rfl, rfl⟩
def plainQ (b : Bo) (boat : Nat) : Qu := ⟨boat, 0, 0, b.speed.toNat⟩
theorem plain_ok (b : Bo) (hb : b.OK) (x : T) (boat : Nat) : ACall Tryz.prog 61 [.t (waT b x), .t (vi boat)] [] (ret (tQu (plainQ b boat))) := by
  refine ACall.walk k61 ?_
  have hs := hb.speed
  have e : b.speed = ((b.speed.toNat : Nat) : Int) := by omega
  unfold c61 plainQ
  simp only [go_sem, Nat.reduceEqDiff, Nat.reduceAdd, Nat.reduceLeDiff, undef]
  refine finL_ret [] ⟨rfl, rfl, rfl, rfl, _, rfl, res_mk ?_⟩
  show Out.ret (.t (.agg [vi boat, vi 0, vi 0, vi b.speed])) = _
  conv => lhs; rw [e]
  rfl
open Go Go.Ab
theorem ACallL.weak1 {P : Program} {f : Nat} {args args0 : List E} {σ : List AO} {R : Lz (Out → List AO → Prop)} {o' : Out} (h : ACall P f args0 [] (res o')) (hv : (E.wks args).map .t = args0) (hk : R.get o' σ) : @ACallL P f args σ R := by
  subst hv
  exact ACall.weak ((h.fresh fun o σ' h => h.2).mono fun o σ' h => by obtain ⟨rfl, rfl, _⟩ := h; exact hk)
theorem lend1 {f : Nat} {args0 : List E} {a : AO} {R0 : Out → AO → Prop} (h : ACall Tryz.prog f args0 [a] (fun o σ' => ∃ a', R0 o a' ∧ σ' = [a'])) {m : Nat} {σ : List AO} {b : AO} (hm : σ[m]? = some b) (hb : b = a.ren (lendR [m] σ.length))
    {args : List E} (hargs : args = E.rens (lendR [m] σ.length) args0) {R : Lz (Out → List AO → Prop)}
    (hk : ∀ o a', R0 o a' → R.get (o.ren (lendR [m] σ.length)) (σ.set m (a'.ren (lendR [m] σ.length)))) : @ACallL Tryz.prog f args σ R := by
  have hml := (List.getElem?_eq_some_iff.1 hm).1
  have e0 : lendR [m] σ.length 0 = m := rfl
  refine ACall.mono (ACall.lend [m] h (by simp) (by simpa using hml) rfl (fun j o ho => ?_) hargs) ?_
  · match j, ho with
    | 0, ho => simp at ho; subst ho; rw [e0, hm, hb]
  · rintro o σ1 ⟨o0, σ0, ⟨a', hR, rfl⟩, _, rfl, rfl⟩
    have := hk o0 a' hR
    have hs : lendB σ [m] ([a'].map (AO.ren (lendR [m] σ.length))) = σ.set m (a'.ren (lendR [m] σ.length)) := by
      apply List.ext_getElem?
      intro i
      by_cases hi : i = m
      · subst hi
        rw [lendB_kept (j := 0) (by simp) (by simp) (by simpa using hml) rfl, List.getElem?_set_self hml]
        rfl
      · by_cases hil : i < σ.length
        · rw [lendB_other hil (by simpa using hi), List.getElem?_set_ne (Ne.symm hi)]
        · rw [List.getElem?_eq_none (by rw [lendB_length (by simp)]; simp; omega), List.getElem?_eq_none (by rw [List.length_set]; omega)]
    rw [hs]
    exact this
def heldL (b : Bo) (q : Qu) (l : List Si) (m : Nat) : List Nat := rowM b q.row :: (kept l q.without l.length).map (atM b m)
def andL (x : Nat) (l : List Nat) : Nat := l.foldl (· &&& ·) x
def heldM (b : Bo) (q : Qu) (l : List Si) (m c : Nat) : Nat := andL c (heldL b q l m)
def stepsM (b : Bo) : Nat → Nat → Nat
  | 0, p => p
  | k + 1, p => stepM b (stepsM b k p)
def roundM (b : Bo) (q : Qu) (l : List Si) (st : List Nat × Nat) (m : Nat) : List Nat × Nat :=
  let o := st.1.getD m 0 &&& heldM b q l m st.2
  (st.1.set m o, stepsM b q.speed o)
def minsN (b : Bo) (back : Bool) : List Nat := (List.range (b.L + 1)).map (minN b back)
def passM (b : Bo) (q : Qu) (l : List Si) (back : Bool) (out : List Nat) : List Nat := ((minsN b back).foldl (roundM b q l) (out, allM b)).1
def followM (b : Bo) (q : Qu) (l : List Si) : List Nat := passM b q l true (passM b q l false (List.replicate 13 (allM b)))
def logQ (b : Bo) (q : Qu) : List Nat := followM b q (b.seen.getD q.boat [])
abbrev tLog (l : List Nat) : T := .agg (l.map fun p : Nat => vu p)
abbrev keyQ (q : Qu) : List Int := [q.boat, q.without, q.row, q.speed]
def quK : List Int → Qu
  | [a, b, c, d] => ⟨a.toNat, b.toNat, c.toNat, d.toNat⟩
  | _ => ⟨0, 0, 0, 0⟩
def MapOK (b : Bo) (ks : List (Nat × List Int)) (xs : List T) : Prop := ks.length = xs.length ∧ ∀ (i : Nat) e x, ks[i]? = some e → xs[i]? = some x → e.2.length = 4 ∧ x = tLog (logQ b (quK e.2))
theorem MapOK.nil (b : Bo) : MapOK b [] [] := ⟨rfl, fun i e x h => by simp at h⟩
theorem MapOK.find {b : Bo} {ks : List (Nat × List Int)} {xs : List T} (M : MapOK b ks xs) {q : Qu} {i : Nat} (hf : kfind shQ ks (keyQ q) = some i) : xs[i]? = some (tLog (logQ b q)) := by
  unfold kfind at hf
  obtain ⟨hi, hp, _⟩ := List.findIdx?_eq_some_iff_getElem.1 hf
  have hix : i < xs.length := by rw [← M.1]; exact hi
  obtain ⟨e1, e2⟩ := M.2 i ks[i] xs[i] (List.getElem?_eq_getElem hi) (List.getElem?_eq_getElem hix)
  rw [kEq_int rfl rfl e1] at hp
  have := of_decide_eq_true hp
  rw [List.getElem?_eq_getElem hix, e2, ← this]
  rfl
theorem MapOK.new {b : Bo} {ks : List (Nat × List Int)} {xs : List T} (M : MapOK b ks xs) {q : Qu} {clk : Nat} : MapOK b (ks ++ [(clk, keyQ q)]) (xs ++ [tLog (logQ b q)]) := by
  refine ⟨by simp [M.1], fun i e x h1 h2 => ?_⟩
  by_cases hi : i < ks.length
  · rw [List.getElem?_append_left hi] at h1
    rw [List.getElem?_append_left (by rw [← M.1]; exact hi)] at h2
    exact M.2 i e x h1 h2
  · have hlt := (List.getElem?_eq_some_iff.1 h1).1
    simp at hlt
    obtain rfl : i = ks.length := by omega
    rw [List.getElem?_append_right (by omega)] at h1
    rw [M.1, List.getElem?_append_right (by omega)] at h2
    simp at h1 h2
    subst h1 h2
    exact ⟨rfl, rfl⟩
abbrev Memo (b : Bo) (o : AO) : Prop := ∃ ks xs clk, MapOK b ks xs ∧ o = .map shQ ks xs clk
theorem toKeyQ (a b c d : Int) : toKey (some [some .i64, some .i64, some .i64, some .i64], none) (.t (.agg [vi a, vi b, vi c, vi d])) = some [a, b, c, d] := by
  simp [toKey, cellKeys, cellKey]
structure Qu.OK (b : Bo) (q : Qu) : Prop where
  boat : q.boat < b.seen.length
  without : q.without < 64
  row : q.row ≤ 7
  speed : q.speed ≤ 3
theorem andL_lt {n : Nat} : ∀ (l : List Nat) (x : Nat), x < n → andL x l < n
  | [], x, h => h
  | y :: l, x, h => andL_lt l (x &&& y) (Nat.lt_of_le_of_lt Nat.and_le_left h)
theorem andL_take {l : List Nat} {x j y : Nat} (h : l[j]? = some y) : andL x (l.take (j + 1)) = andL x (l.take j) &&& y := by
  obtain ⟨hk, e⟩ := List.getElem?_eq_some_iff.1 h
  unfold andL
  rw [List.take_succ_eq_append_getElem hk, List.foldl_append, e]
  rfl
theorem stepsM_lt {b : Bo} (hb : b.OK) {p : Nat} (hp : p < B48) : ∀ k, stepsM b k p < B48
  | 0 => hp
  | k + 1 => stepM_lt hb _
theorem heldL_at {b : Bo} {q : Qu} {l : List Si} {m : Nat} : ∀ j, (heldL b q l m)[j + 1]? = ((kept l q.without l.length)[j]?).map (atM b m) := fun j => by unfold heldL; rw [List.getElem?_cons_succ, List.getElem?_map]
theorem heldL_len {b : Bo} {q : Qu} {l : List Si} {m : Nat} : (heldL b q l m).length = (holdsT q.row (kept l q.without l.length)).length := by simp [heldL, holdsT]
theorem heldL_lt {b : Bo} (hb : b.OK) {q : Qu} {l : List Si} {m : Nat} : ∀ x ∈ heldL b q l m, x < B48 := fun x hx => by
  unfold heldL at hx
  rcases List.mem_cons.1 hx with rfl | hx
  · exact rowM_lt hb _
  · obtain ⟨s, _, rfl⟩ := List.mem_map.1 hx
    exact atM_lt hb m s
def stM (b : Bo) (q : Qu) (l : List Si) (back : Bool) (out : List Nat) (i : Nat) : List Nat × Nat := ((minsN b back).take i).foldl (roundM b q l) (out, allM b)
theorem stM_succ {b : Bo} {q : Qu} {l : List Si} {back : Bool} {out : List Nat} {i : Nat} (hi : i < b.L + 1) : stM b q l back out (i + 1) = roundM b q l (stM b q l back out i) (minN b back i) := by
  unfold stM
  have h : (minsN b back)[i]? = some (minN b back i) := by unfold minsN; rw [List.getElem?_map, List.getElem?_range hi]; rfl
  obtain ⟨hk, e⟩ := List.getElem?_eq_some_iff.1 h
  rw [List.take_succ_eq_append_getElem hk, List.foldl_append, e]
  rfl
structure StOK (st : List Nat × Nat) : Prop where
  len : st.1.length = 13
  out : ∀ x ∈ st.1, x < B48
  can : st.2 < B48
theorem StOK.round {b : Bo} (hb : b.OK) {q : Qu} {l : List Si} {st : List Nat × Nat} (h : StOK st) (m : Nat) (hm : m < 13) : StOK (roundM b q l st m) := by
  have hml : m < st.1.length := by have := h.len; omega
  have hx : st.1[m]? = some st.1[m] := List.getElem?_eq_getElem hml
  have hg : st.1.getD m 0 = st.1[m] := by rw [List.getD_eq_getElem?_getD, hx]; rfl
  have ho : st.1.getD m 0 &&& heldM b q l m st.2 < B48 := Nat.lt_of_le_of_lt Nat.and_le_left (by rw [hg]; exact h.out _ (List.getElem_mem _))
  refine ⟨by unfold roundM; simpa using h.len, fun x hx => ?_, stepsM_lt hb ho _⟩
  rcases List.mem_or_eq_of_mem_set hx with h1 | h1
  · exact h.out x h1
  · rw [h1]; exact ho
theorem minN_le (b : Bo) (back : Bool) {i : Nat} (hi : i < b.L + 1) : minN b back i ≤ b.L := by unfold minN; split <;> omega
theorem stM_ok {b : Bo} (hb : b.OK) {q : Qu} {l : List Si} {back : Bool} {out : List Nat} (h : StOK (out, allM b)) : ∀ i ≤ b.L + 1, StOK (stM b q l back out i)
  | 0, _ => h
  | i + 1, hi => by
    rw [stM_succ (by omega)]
    exact (stM_ok hb h i (by omega)).round hb _ (by have := minN_le b back (i := i) (by omega); have := hb.L.1; omega)
theorem stM_last (b : Bo) (q : Qu) (l : List Si) (back : Bool) (out : List Nat) : (stM b q l back out (b.L + 1)).1 = passM b q l back out := by
  unfold stM passM
  rw [List.take_of_length_le (by simp [minsN])]
theorem logs_ok {b : Bo} (hb : b.OK) (q : Qu) (l : List Si) : StOK (passM b q l false (List.replicate 13 (allM b)), allM b) ∧ StOK (followM b q l, allM b) := by
  have h0 : StOK (List.replicate 13 (allM b), allM b) := ⟨by simp, fun x hx => by rw [List.eq_of_mem_replicate hx]; exact allM_lt hb, allM_lt hb⟩
  have h1 := stM_ok hb (q := q) (l := l) (back := false) h0 (b.L + 1) (Nat.le_refl _)
  have h2 : StOK (passM b q l false (List.replicate 13 (allM b)), allM b) := by
    rw [← stM_last]
    exact ⟨h1.len, h1.out, allM_lt hb⟩
  have h3 := stM_ok hb (q := q) (l := l) (back := true) h2 (b.L + 1) (Nat.le_refl _)
  refine ⟨h2, ?_⟩
  unfold followM
  rw [← stM_last]
  exact ⟨h3.len, h3.out, allM_lt hb⟩
theorem logQ_len {b : Bo} (hb : b.OK) (q : Qu) : (logQ b q).length = 13 := (logs_ok hb q _).2.len
theorem logQ_lt {b : Bo} (hb : b.OK) (q : Qu) : ∀ x ∈ logQ b q, x < B48 := (logs_ok hb q _).2.out
open Go Go.Ab
abbrev waCallR (b : Bo) (o' : Out) : Out → List AO → Prop := fun o σ' => ∃ a', (o = o' ∧ Memo b a') ∧ σ' = [a']
def zer13 : List E := [.t (vu 0), .t (vu 0), .t (vu 0), .t (vu 0), .t (vu 0), .t (vu 0), .t (vu 0), .t (vu 0), .t (vu 0), .t (vu 0), .t (vu 0), .t (vu 0), .t (vu 0)]
theorem zero13 : zeroT (Value.agg #[Value.int IntKind.u64 0, Value.int IntKind.u64 0, Value.int IntKind.u64 0, Value.int IntKind.u64 0, Value.int IntKind.u64 0, Value.int IntKind.u64 0, Value.int IntKind.u64 0, Value.int IntKind.u64 0, Value.int IntKind.u64 0, Value.int IntKind.u64 0, Value.int IntKind.u64 0, Value.int IntKind.u64 0, Value.int IntKind.u64 0]) = .agg [vu 0, vu 0, vu 0, vu 0, vu 0, vu 0, vu 0, vu 0, vu 0, vu 0, vu 0, vu 0, vu 0] := rfl
def FoMid (b : Bo) (q : Qu) (l : List Si) (ks : List (Nat × List Int)) (xs : List T) (clk : Nat) (st : St) : Prop := lk st.env 2 = .ptr 1 0 ∧ lk st.env 3 = .ptr 2 0 ∧ lk st.env 4 = .ptr 3 0 ∧ lk st.env 7 = .ptr 5 0 ∧
  (∃ a : AO, st.σ = [.map shQ ks xs clk, .cells [waE b 0], .cells [.t (vi q.boat), .t (vi q.without), .t (vi q.row), .t (vi q.speed)], .cells zer13, a, .cells [.t (.slice 1 (holdsT q.row (kept l q.without l.length)))]]) ∧ st.df = [] ∧ st.k = 0
def allTo (b : Bo) (j : Nat) : List Nat := List.replicate j (allM b) ++ List.replicate (13 - j) 0
theorem allTo_len (b : Bo) {j : Nat} (hj : j ≤ 13) : (allTo b j).length = 13 := by simp [allTo]; omega
theorem allTo_set (b : Bo) {j : Nat} (hj : j < 13) : (allTo b j).set j (allM b) = allTo b (j + 1) := by
  unfold allTo
  rw [List.set_append_right _ _ (by simp), List.length_replicate, Nat.sub_self, show 13 - j = (13 - (j + 1)) + 1 by omega, List.replicate_succ, List.set_cons_zero, List.replicate_succ', List.append_assoc]
  rfl
theorem spU (l : List Nat) (v : Nat) {j : Nat} (h : j < l.length) : List.take j ((l.map fun z : Nat => vu z).map E.t) ++ [E.t (vu v)] ++ List.drop (j + 1) ((l.map fun z : Nat => vu z).map E.t) = ((l.set j v).map fun z : Nat => vu z).map E.t := by
  rw [List.map_set, List.map_set, List.set_eq_take_append_cons_drop, if_pos (by simpa using h), List.append_assoc]; rfl
def FoMid2 (b : Bo) (q : Qu) (l : List Si) (ks : List (Nat × List Int)) (xs : List T) (clk : Nat) (st : St) : Prop := lk st.env 2 = .vp [waE b 0] 0 ∧ lk st.env 3 = .t (.ptr (tQu q) 0) ∧ lk st.env 4 = .ptr 1 0 ∧ lk st.env 7 = .t (.ptr (.agg [.slice 1 (holdsT q.row (kept l q.without l.length))]) 0) ∧ lk st.env 8 = .ptr 2 0 ∧ lk st.env 10 = .ptr 3 0 ∧
  st.σ = [.map shQ ks xs clk, .cells zer13, .cells (((allTo b 13).map fun p : Nat => vu p).map .t), .cells [.fn (.func 92) [waE b 0] []]] ∧ st.df = [] ∧ st.k = 0
set_option maxRecDepth 8000 in
set_option maxHeartbeats 8000000 in
theorem follow_ok (b : Bo) (hb : b.OK) (q : Qu) (hq : q.OK b) {ks : List (Nat × List Int)} {xs : List T} {clk : Nat} (M : MapOK b ks xs) :
    ACall Tryz.prog 62 [waE b 0, .t (tQu q)] [.map shQ ks xs clk] (waCallR b (.ret (.t (tLog (logQ b q))))) := by
  refine ACall.walk k62 ?_
  have hl : b.seen[q.boat]? = some (b.seen.getD q.boat []) := by rw [List.getD_eq_getElem?_getD, List.getElem?_eq_getElem hq.boat]; rfl
  have hlog : logQ b q = followM b q (b.seen.getD q.boat []) := rfl
  generalize b.seen.getD q.boat [] = l at *
  have h91 := holds_ok b hb .hole q l hl (by have := hq.without; omega)
  unfold c62
  refine awpL_chop 3 (c1 := ?a1) (c2 := ?a2) (fun st => kfind shQ ks (keyQ q) = none ∧ FoMid b q l ks xs clk st) ?hc ?_ ?_
  case hc => simp only [chop]; rfl
  · cases hk2 : kfind shQ ks (keyQ q) with
    | some i =>
      have hx := M.find hk2
      have hlen : (logQ b q).length = 13 := logQ_len hb q
      generalize logQ b q = LQ at *
      have htk : List.take 13 (List.map E.t (List.map (fun p : Nat => vu p) LQ)) = List.map E.t (List.map (fun p : Nat => vu p) LQ) := List.take_of_length_le (by simp [hlen])
      simp only [go_sem, Nat.reduceEqDiff, Nat.reduceAdd, undef, undef, toKeyQ, mapOf?, hk2, hx, List.length_map, hlen, htk, allT_t]
      refine finL_ret [0] ⟨rfl, rfl, rfl, rfl, .t (tLog LQ), ?_, _, ⟨rfl, ks, xs, clk, M, rfl⟩, rfl⟩
      simp only [go_sem, Nat.reduceEqDiff, resV, resEs, lk, List.length_map, hlen, htk, allT_t]
    | none =>
      simp only [go_sem, Nat.reduceEqDiff, Nat.reduceAdd, undef, undef, toKeyQ, mapOf?, hk2, zero13]
      refine ACallL.weak1 h91 rfl ?_
      simp only [go_sem, Nat.reduceEqDiff, Nat.reduceAdd, undef, undef]
      exact ⟨rfl, rfl, rfl, rfl, ⟨_, rfl⟩, rfl, rfl⟩
  rintro ⟨env, σ, df, k⟩ ⟨hk2, q2, q3, q4, q7, ⟨a, hσ⟩, hdf, hk⟩
  simp only at q2 q3 q4 q7 hσ hdf hk
  subst hσ hdf hk
  refine awpL_chop 3 (c1 := ?b1) (c2 := ?b2) (FoMid2 b q l ks xs clk) ?hc2 ?_ ?_
  case hc2 => simp only [chop]; rfl
  · simp only [go_sem, Nat.reduceAdd]
    refine awpL_forC (i := 31) (m := 13) 13 rfl (fun j st => st = { env := [(31, .t (vi j)), (2, .vp [waE b 0] 0), (3, .t (.ptr (tQu q) 0)), (4, .ptr 1 0), (7, .t (.ptr (.agg [.slice 1 (holdsT q.row (kept l q.without l.length))]) 0)), (8, .ptr 2 0)], σ := [.map shQ ks xs clk, .cells zer13, .cells (((allTo b j).map fun p : Nat => vu p).map .t)] }) ?_
      ⟨_, Sub.gc [0, 3, 6] [31, 2, 3, 4, 7, 8] rfl rfl, St.gc_mk (by simp only [List.map_cons, List.map_nil, lk, Nat.reduceEqDiff, reduceIte, q2, q3, q4, q7]; rfl) rfl rfl rfl⟩ ?_ ?_
    · rintro k st rfl; exact rfl
    · rintro j st hj rfl
      have hwj : IntKind.i64.wrap ((j : Int) + 1) = ((j + 1 : Nat) : Int) := by rw [wrap_id (by omega) (by omega)]; omega
      have hjj : (j : Int) < 13 := by omega
      have hjl : (j + 1 ≤ 13) = True := by simp; omega
      have hlen := allTo_len b (j := j) (by omega)
      have hsp := spU (allTo b j) (allM b) (j := j) (by omega)
      rw [allTo_set b hj] at hsp
      generalize allTo b (j + 1) = O2 at *
      generalize allTo b j = O at *
      simp only [go_sem, Nat.reduceEqDiff, Nat.reduceAdd, Nat.reduceLeDiff, undef, undef, hwj, hjj, hjl, Nat.mul_one, List.length_map, hlen, hsp]
      exact ⟨_, Sub.gc [0, 1, 2] [31, 2, 3, 4, 7, 8] rfl rfl, St.gc_mk rfl (by show [AO.map _ _ _ _, AO.cells _, AO.cells ((List.map E.t _).map (E.gc _ _ _))] = _; rw [gc_row]; rfl) rfl rfl⟩
    · rintro st rfl
      simp only [go_sem, Nat.reduceEqDiff, Nat.reduceAdd, undef, undef]
      exact ⟨rfl, rfl, rfl, rfl, rfl, rfl, rfl, rfl, rfl⟩
  clear q2 q3 q4 q7
  rintro ⟨env, σ, df, k⟩ ⟨q2, q3, q4, q7, q8, q10, hσ, hdf, hk⟩
  simp only at q2 q3 q4 q7 q8 q10 hσ hdf hk
  subst hσ hdf hk
  have hS0 : StOK (allTo b 13, allM b) := ⟨by simp [allTo], fun x hx => by
    unfold allTo at hx
    simp only [Nat.sub_self, List.replicate_zero, List.append_nil] at hx
    rw [List.eq_of_mem_replicate hx]; exact allM_lt hb, allM_lt hb⟩
  have hS1 : StOK (passM b q l false (allTo b 13), allM b) := by
    rw [← stM_last]
    have h1 := stM_ok hb (q := q) (l := l) (back := false) hS0 (b.L + 1) (Nat.le_refl _)
    exact ⟨h1.len, h1.out, allM_lt hb⟩
  have hlog2 : logQ b q = passM b q l true (passM b q l false (allTo b 13)) := by rw [hlog]; unfold followM allTo; simp only [Nat.sub_self, List.replicate_zero, List.append_nil]
  let pas : Nat → List Nat := fun j => if j = 0 then allTo b 13 else if j = 1 then passM b q l false (allTo b 13) else passM b q l true (passM b q l false (allTo b 13))
  have hp0 : ∀ j < 2, StOK (pas j, allM b) := fun j hj => by
    have : j = 0 ∨ j = 1 := by omega
    rcases this with rfl | rfl
    · exact hS0
    · exact hS1
  have hp1 : ∀ j < 2, passM b q l (decide (j = 1)) (pas j) = pas (j + 1) := fun j hj => by
    have : j = 0 ∨ j = 1 := by omega
    rcases this with rfl | rfl <;> rfl
  have hp2 : pas 2 = logQ b q := hlog2.symm
  have hp3 : allTo b 13 = pas 0 := rfl
  rw [hp3]
  clear_value pas
  simp only [go_sem, Nat.reduceAdd, Nat.reduceLT]
  refine awpL_for (i := 45) (L := 44) 2 (fun j st => ∃ ks xs clk d, kfind shQ ks (keyQ q) = none ∧ MapOK b ks xs ∧ st = { env := [(45, .t (vi j)), (44, .t (vi 2)), (43, .t (.slice 1 [vb false, vb true])), (2, .vp [waE b 0] 0), (3, .t (.ptr (tQu q) 0)), (4, .ptr 1 0), (7, .t (.ptr (.agg [.slice 1 (holdsT q.row (kept l q.without l.length))]) 0)), (8, .ptr 2 0), (10, .vp [.fn (.func 92) [waE b 0] []] 0)], σ := [.map shQ ks xs clk, .cells zer13, .cells (((pas j).map fun p : Nat => vu p).map .t)], df := List.replicate d .mark }) ?_
    ⟨_, Sub.gc [0, 1, 2] [45, 44, 43, 2, 3, 4, 7, 8, 10] rfl rfl, ks, xs, clk, 0, hk2, M, St.gc_mk (by simp only [List.map_cons, List.map_nil, lk, Nat.reduceEqDiff, reduceIte, q2, q3, q4, q7, q8, q10]; rfl) (by show [AO.map _ _ _ _, AO.cells _, AO.cells ((List.map E.t _).map (E.gc _ _ _))] = _; rw [gc_row]; rfl) rfl rfl⟩ ?_ ?_
  · rintro k st ⟨_, _, _, _, _, _, rfl⟩; exact ⟨rfl, rfl⟩
  · rintro j st hj ⟨ks, xs, clk, d, hk2, M, rfl⟩
    have hwj : IntKind.i64.wrap ((j : Int) + 1) = ((j + 1 : Nat) : Int) := by rw [wrap_id (by omega) (by omega)]; omega
    have hjj : (j : Int) < 2 := by omega
    have hbv : ([vb false, vb true] : List T)[j]? = some (vb (decide (j = 1))) := by
      have : j = 0 ∨ j = 1 := by omega
      rcases this with rfl | rfl <;> rfl
    have hS := hp0 j hj
    have hP := hp1 j hj
    generalize decide (j = 1) = back at *
    have hgen := fun x => minutes_gen b hb x back
    simp only [go_sem, Nat.reduceEqDiff, Nat.reduceAdd, Nat.reduceLeDiff, undef, undef, hbv, Option.map_some]
    refine lend1 (m := 0) ((minutes_ok b back ks xs clk).mono fun o σ' h => (⟨_, ⟨h.1, rfl⟩, h.2⟩ : ∃ a', (o = _ ∧ a' = AO.map shQ ks xs clk) ∧ σ' = [a'])) rfl rfl (by simp [E.rens, E.ren]; rfl) ?_
    rintro o a' ⟨rfl, rfl⟩
    simp only [go_sem, Nat.reduceAdd, Out.ren, E.ren, E.rens, AO.ren]
    refine awpL_gcpS (Sub.wk 55) ?_
    simp only [go_sem, Nat.reduceEqDiff, E.wk, E.wks]
    refine awpL_rangeS (f := 111) (fs := []) (cs := [.ptr (.agg [waT b .hole]) 0, .ptr (.agg [vb back]) 0]) (minL b back) (fun i σ => σ = [.map shQ ks xs clk, .cells zer13, .cells (((stM b q l back (pas j) i).1.map fun p : Nat => vu p).map .t), .cells [.t (vu ((stM b q l back (pas j) i).2 : Nat))]]) (fun _ _ => False) [0, 1, 2, 3] [45, 44, 43, 2, 3, 4, 7, 8, 10, 13]
      [(45, .t (vi j)), (44, .t (vi 2)), (43, .t (.slice 1 [vb false, vb true])), (2, .vp [waE b 0] 0), (3, .t (.ptr (tQu q) 0)), (4, .ptr 1 0), (7, .t (.ptr (.agg [.slice 1 (holdsT q.row (kept l q.without l.length))]) 0)), (8, .ptr 2 0), (10, .vp [.fn (.func 92) [waE b 0] []] 0), (13, .ptr 3 0)] (List.replicate d .mark) rfl (by simp [St.gc, Df.gc]) rfl rfl (hgen .hole) rfl rfl (by
        show [AO.map _ _ _ _, AO.cells _, AO.cells ((List.map E.t _).map (E.gc _ _ _)), AO.cells _] = _
        rw [gc_row]
        rfl) ?_ ?_ (fun _ _ h => h.elim)
    · rintro lp i v σ hv rfl
      have hil : i < b.L + 1 := by have := (List.getElem?_eq_some_iff.1 hv).1; rw [minL_len] at this; exact this
      rw [minL_at b back hil] at hv
      cases hv
      have hm := minN_le b back hil
      have hL12 := hb.L.1
      have hst := stM_ok hb hS (q := q) (l := l) (back := back) i (by omega)
      have hsucc := stM_succ (b := b) (q := q) (l := l) (back := back) (out := pas j) hil
      rw [hsucc]
      generalize minN b back i = m at *
      generalize stM b q l back (pas j) i = stt at *
      obtain ⟨out, can⟩ := stt
      obtain ⟨hol, hob, hcan⟩ := hst
      simp only at hol hob hcan
      have hH := heldL_lt hb (q := q) (l := l) (m := m)
      have hHl : (heldL b q l m).length = (holdsT q.row (kept l q.without l.length)).length := heldL_len
      have hH0 : (heldL b q l m)[0]? = some (rowM b q.row) := rfl
      have hHs := fun n => heldL_at (b := b) (q := q) (l := l) (m := m) n
      have hT0 : (holdsT q.row (kept l q.without l.length))[0]? = some (.iface 253 (rowsT q.row)) := rfl
      have hTs : ∀ n, (holdsT q.row (kept l q.without l.length))[n + 1]? = ((kept l q.without l.length)[n]?).map tHold := fun n => by unfold holdsT; rw [List.getElem?_cons_succ, List.getElem?_map]
      have hKs : ∀ s ∈ kept l q.without l.length, s.OK b := fun s hs => by
        obtain ⟨_, _, _, h⟩ := kept_mem.1 hs
        exact hb.si (List.mem_of_getElem? hl) (List.mem_of_getElem? h)
      have hrd : roundM b q l (out, can) m = (out.set m (out.getD m 0 &&& andL can (heldL b q l m)), stepsM b q.speed (out.getD m 0 &&& andL can (heldL b q l m))) := rfl
      rw [hrd]
      have hKl : (kept l q.without l.length).length ≤ 5 := Nat.le_trans (List.length_filterMap_le _ _) (by simpa using hb.lens l (List.mem_of_getElem? hl))
      have hTl : (holdsT q.row (kept l q.without l.length)).length = (kept l q.without l.length).length + 1 := by simp [holdsT]
      generalize kept l q.without l.length = K at *
      generalize heldL b q l m = HL at *
      generalize holdsT q.row K = H at *
      simp only [T.ofV, go_sem, Nat.reduceEqDiff, Nat.reduceAdd]
      refine awpL_for (i := 59) (L := 58) H.length (fun n st => st = { env := [(59, .t (vi n)), (58, .t (vi H.length)), (57, .t (.slice 1 H)), (2, .vp [waE b 0] 0), (3, .t (.ptr (tQu q) 0)), (8, .ptr 2 0), (10, .vp [.fn (.func 92) [waE b 0] []] 0), (13, .ptr 3 0), (14, .t (vi m))], σ := [.map shQ ks xs clk, .cells zer13, .cells ((out.map fun p : Nat => vu p).map .t), .cells [.t (vu (andL can (HL.take n) : Nat))]] }) ?_
        ⟨_, Sub.gc [0, 1, 2, 3] [59, 58, 57, 2, 3, 8, 10, 13, 14] rfl rfl, St.gc_mk rfl (by show [AO.map _ _ _ _, AO.cells _, AO.cells ((List.map E.t _).map (E.gc _ _ _)), AO.cells _] = _; rw [gc_row]; rfl) rfl rfl⟩ ?_ ?_
      · rintro k st rfl; exact ⟨rfl, rfl⟩
      · rintro n st hn rfl
        have hwn : IntKind.i64.wrap ((n : Int) + 1) = ((n + 1 : Nat) : Int) := by rw [wrap_id (by omega) (by omega)]; omega
        have hnn : (n : Int) < H.length := by omega
        have hx : HL[n]? = some HL[n] := List.getElem?_eq_getElem (by omega)
        have hy := hH _ (List.getElem_mem (show n < HL.length by omega))
        have hta := andL_take (x := can) hx
        have hal : andL can (HL.take n) < 281474976710656 := andL_lt _ _ hcan
        generalize HL[n] = y at *
        have hy' : y < 281474976710656 := hy
        have o1 := ubits_and (a := andL can (HL.take n)) (b := y) (by omega) (by omega)
        rw [← hta] at o1
        generalize andL can (HL.take (n + 1)) = A1 at *
        generalize andL can (HL.take n) = A0 at *
        cases n with
        | zero =>
          rw [hH0] at hx
          cases hx
          have hcall := atRows_ok b hb (.map shQ ks xs clk) q.row hq.row m
          simp only [go_sem, Nat.reduceEqDiff, Int.reduceLE, hT0, Option.map_some, mfind]
          refine ACallL.quiet1 hcall rfl rfl rfl ?_
          simp only [go_sem, Nat.reduceEqDiff, Int.reduceAdd, undef, undef, Option.map_some, o1]
          exact ⟨_, Sub.gc [0, 1, 2, 3] [59, 58, 57, 2, 3, 8, 10, 13, 14] rfl rfl, St.gc_mk rfl (by show [AO.map _ _ _ _, AO.cells _, AO.cells ((List.map E.t _).map (E.gc _ _ _)), AO.cells _] = _; rw [gc_row]; rfl) rfl rfl⟩
        | succ n =>
          have hk : K[n]? = some K[n] := List.getElem?_eq_getElem (by omega)
          have hso := hKs _ (List.getElem_mem (show n < K.length by omega))
          have hTn := hTs n
          rw [hHs n, hk, Option.map_some] at hx
          rw [hk, Option.map_some] at hTn
          generalize K[n] = s at *
          cases hx
          have hcall := atSi_ok b hb (.map shQ ks xs clk) s hso m
          simp only [tHold] at hTn
          simp only [go_sem, Nat.reduceEqDiff, hTn, Option.map_some, mfind]
          refine ACallL.quiet1 hcall rfl rfl rfl ?_
          simp only [go_sem, Nat.reduceEqDiff, undef, undef, Option.map_some, hwn, o1]
          exact ⟨_, Sub.gc [0, 1, 2, 3] [59, 58, 57, 2, 3, 8, 10, 13, 14] rfl rfl, St.gc_mk rfl (by show [AO.map _ _ _ _, AO.cells _, AO.cells ((List.map E.t _).map (E.gc _ _ _)), AO.cells _] = _; rw [gc_row]; rfl) rfl rfl⟩
      · rintro st rfl
        rw [← hHl, List.take_length]
        have hcl : andL can HL < B48 := andL_lt _ _ hcan
        generalize andL can HL = c at *
        have hml : m < out.length := by omega
        have hom : out[m]? = some (out.getD m 0) := by rw [List.getD_eq_getElem?_getD, List.getElem?_eq_getElem hml]; rfl
        have hob' := hob _ (List.mem_of_getElem? hom)
        generalize out.getD m 0 = z at *
        have hz : z < 281474976710656 := hob'
        have hc : c < 281474976710656 := hcl
        have o1 := ubits_and (a := z) (b := c) (by omega) (by omega)
        have hol2 : z &&& c < B48 := Nat.lt_of_le_of_lt Nat.and_le_left hob'
        generalize z &&& c = o at *
        have hsp := spU out o hml
        have hset : (out.set m o)[m]? = some o := List.getElem?_set_self hml
        have hsl : (out.set m o).length = 13 := by simp [hol]
        generalize out.set m o = out2 at *
        have hm13 : (m : Int) < 13 := by omega
        have hm13' : (m + 1 ≤ 13) = True := by simp; omega
        simp only [go_sem, Nat.reduceEqDiff, Nat.reduceAdd, undef, undef, hm13, hm13', List.length_map, List.getElem?_map, hom, Option.map_some, Nat.mul_one, o1, hol, hsp, hset, hsl]
        refine awpL_for (i := 81) (L := 80) q.speed (fun n st => st = { env := [(81, .t (vi n)), (80, .t (vi q.speed)), (10, .vp [.fn (.func 92) [waE b 0] []] 0), (13, .ptr 3 0)], σ := [.map shQ ks xs clk, .cells zer13, .cells ((out2.map fun p : Nat => vu p).map .t), .cells [.t (vu (stepsM b n o : Nat))]] }) ?_
          ⟨_, Sub.gc [0, 1, 2, 3] [81, 80, 10, 13] rfl rfl, St.gc_mk rfl (by show [AO.map _ _ _ _, AO.cells _, AO.cells ((List.map E.t _).map (E.gc _ _ _)), AO.cells _] = _; rw [gc_row]; rfl) rfl rfl⟩ ?_ ?_
        · rintro k st rfl; exact ⟨rfl, rfl⟩
        · rintro n st hn rfl
          have hwn : IntKind.i64.wrap ((n : Int) + 1) = ((n + 1 : Nat) : Int) := by rw [wrap_id (by have := hq.speed; omega) (by have := hq.speed; omega)]; omega
          have hcall := step_ok b hb (.map shQ ks xs clk) (stepsM b n o) (stepsM_lt hb hol2 n)
          have hss : stepsM b (n + 1) o = stepM b (stepsM b n o) := rfl
          rw [← hss] at hcall
          simp only [go_sem, Nat.reduceEqDiff]
          refine ACallL.quiet1 hcall rfl rfl rfl ?_
          simp only [go_sem, Nat.reduceEqDiff, undef, undef, hwn]
          exact ⟨_, Sub.gc [0, 1, 2, 3] [81, 80, 10, 13] rfl rfl, St.gc_mk rfl (by show [AO.map _ _ _ _, AO.cells _, AO.cells ((List.map E.t _).map (E.gc _ _ _)), AO.cells _] = _; rw [gc_row]; rfl) rfl rfl⟩
        · rintro st rfl
          simp only [go_sem, Nat.reduceEqDiff, Nat.reduceAdd]
          refine ⟨[0, 1, 2, 3], rfl, rfl, ?_⟩
          show [AO.map _ _ _ _, AO.cells _, AO.cells ((List.map E.t _).map (E.gc _ _ _)), AO.cells _] = _
          rw [gc_row]
          rfl
    · rintro σ rfl
      rw [minL_len, stM_last, hP]
      simp only [go_sem, Nat.reduceEqDiff, hwj]
      refine ⟨_, Sub.gc [0, 1, 2] [45, 44, 43, 2, 3, 4, 7, 8, 10] rfl rfl, ks, xs, clk, d + 1, hk2, M, ?_⟩
      exact St.gc_mk rfl (by show [AO.map _ _ _ _, AO.cells _, AO.cells ((List.map E.t _).map (E.gc _ _ _))] = _; rw [gc_row]; rfl) (by simp [Df.gc, List.replicate_succ]) rfl
  · rintro st ⟨ks, xs, clk, d, hk2, M, rfl⟩
    have M2 := M.new (q := q) (clk := clk)
    have hlen := logQ_len hb q
    rw [hp2]
    generalize logQ b q = LQ at *
    have htk : List.take 13 (List.map E.t (List.map (fun p : Nat => vu p) LQ)) = List.map E.t (List.map (fun p : Nat => vu p) LQ) := List.take_of_length_le (by simp [hlen])
    have hdr : List.drop 13 zer13 = [] := rfl
    have hz13 : (13 ≤ zer13.length) = True := by simp [zer13]
    simp only [go_sem, Nat.reduceEqDiff, Nat.reduceAdd, undef, undef, toKeyQ, hk2, List.length_map, hlen, htk, allT_t, hdr, hz13]
    refine finL_ret [0] ⟨by simp, rfl, rfl, rfl, .t (tLog LQ), ?_, _, ⟨rfl, _, _, _, M2, rfl⟩, rfl⟩
    simp only [go_sem, Nat.reduceEqDiff, resV, resEs, lk, List.length_map, hlen, htk, allT_t]
open Go Go.Ab
def canQ (b : Bo) (q : Qu) : Bool := !((logQ b q).getD 0 0 == 0)
theorem int_ne0 (n : Nat) : (((n : Nat) : Int) != 0) = !(n == 0) := by
  rw [Bool.eq_iff_iff, bne_iff_ne]
  simp
theorem log_at {b : Bo} (hb : b.OK) (q : Qu) {m : Nat} (hm : m < 13) : (logQ b q)[m]? = some ((logQ b q).getD m 0) := by
  rw [List.getD_eq_getElem?_getD, List.getElem?_eq_getElem (by rw [logQ_len hb]; exact hm)]; rfl
set_option maxRecDepth 8000 in
theorem can_ok (b : Bo) (hb : b.OK) (q : Qu) (hq : q.OK b) {ks : List (Nat × List Int)} {xs : List T} {clk : Nat} (M : MapOK b ks xs) :
    ACall Tryz.prog 60 [waE b 0, .t (tQu q)] [.map shQ ks xs clk] (waCallR b (.ret (.t (vb (canQ b q))))) := by
  refine ACall.walk k60 ?_
  have h80 := follow_ok b hb q hq M (clk := clk)
  have hat := log_at hb q (m := 0) (by decide)
  have hc : canQ b q = !((logQ b q).getD 0 0 == 0) := rfl
  have hlen := logQ_len hb q
  rw [← int_ne0] at hc
  generalize canQ b q = c at *
  subst hc
  generalize logQ b q = LQ at *
  generalize LQ.getD 0 0 = z at *
  unfold c60
  simp only [go_sem, Nat.reduceEqDiff, Nat.reduceAdd]
  refine lend1 (m := 0) h80 rfl rfl rfl ?_
  rintro o a ⟨rfl, ks2, xs2, clk2, M2, rfl⟩
  simp only [go_sem, Nat.reduceEqDiff, Nat.reduceMul, Nat.reduceLeDiff, Int.reduceLT, Int.reduceLE, Out.ren, E.ren, AO.ren, List.length_map, hlen, List.getElem?_map, hat, Option.map_some]
  exact finL_ret [0] ⟨rfl, rfl, rfl, rfl, _, rfl, _, ⟨rfl, ks2, xs2, clk2, M2, rfl⟩, rfl⟩
theorem plainQ_ok {b : Bo} (hb : b.OK) {boat : Nat} (h : boat < b.seen.length) : (plainQ b boat).OK b := ⟨h, Nat.zero_lt_succ 63, Nat.zero_le 7, by have := hb.speed; unfold plainQ; simp only; omega⟩
abbrev toldO (b : Bo) (boat : Nat) : Out := if canQ b (plainQ b boat) then .ret (.t (tLog (logQ b (plainQ b boat)))) else .pan (rfs 10)
set_option maxRecDepth 8000 in
set_option maxHeartbeats 4000000 in
theorem told_ok (b : Bo) (hb : b.OK) (boat : Nat) (hbo : boat < b.seen.length) {ks : List (Nat × List Int)} {xs : List T} {clk : Nat} (M : MapOK b ks xs) :
    ACall Tryz.prog 37 [waE b 0, .t (vi boat)] [.map shQ ks xs clk] (waCallR b (toldO b boat)) := by
  refine ACall.walk k37 ?_
  have hq := plainQ_ok hb hbo
  have h76 := plain_ok b hb .hole boat
  have h72 := fun {ks : List (Nat × List Int)} {xs : List T} {clk : Nat} (M : MapOK b ks xs) => can_ok b hb (plainQ b boat) hq M (clk := clk)
  have h80 := fun {ks : List (Nat × List Int)} {xs : List T} {clk : Nat} (M : MapOK b ks xs) => follow_ok b hb (plainQ b boat) hq M (clk := clk)
  have hlen := logQ_len hb (plainQ b boat)
  unfold toldO
  generalize plainQ b boat = q at *
  generalize canQ b q = c at *
  generalize logQ b q = LQ at *
  unfold c37
  simp only [go_sem, Nat.reduceEqDiff]
  refine ACallL.weak1 h76 rfl ?_
  simp only [go_sem, Nat.reduceEqDiff]
  refine lend1 (m := 0) (h72 M) rfl rfl rfl ?_
  rintro o a ⟨rfl, ks2, xs2, clk2, M2, rfl⟩
  simp only [go_sem, Nat.reduceEqDiff, Out.ren, E.ren, AO.ren]
  refine ACallL.quiet1 (ask_ok c 10) rfl rfl (by simp only [askO]; split <;> rfl) ?_
  cases c
  · simp only [askO, go_sem, Nat.reduceEqDiff]
    exact finL_pan [0] ⟨rfl, rfl, rfl, rfl, _, ⟨rfl, ks2, xs2, clk2, M2, rfl⟩, rfl⟩
  simp only [askO, go_sem, Nat.reduceEqDiff]
  refine ACallL.weak1 h76 rfl ?_
  simp only [go_sem, Nat.reduceEqDiff]
  refine lend1 (m := 0) (h80 M2) rfl rfl rfl ?_
  rintro o a ⟨rfl, ks3, xs3, clk3, M3, rfl⟩
  have htk : List.take 13 (List.map E.t (List.map (fun p : Nat => vu p) LQ)) = List.map E.t (List.map (fun p : Nat => vu p) LQ) := List.take_of_length_le (by simp [hlen])
  have hdr : List.drop 13 (List.map E.t (List.map (fun p : Nat => vu p) LQ)) = [] := List.drop_eq_nil_of_le (by simp [hlen])
  simp only [go_sem, Nat.reduceEqDiff, Nat.reduceAdd, undef, undef, Out.ren, E.ren, AO.ren, List.length_map, hlen]
  refine finL_ret [0] ⟨rfl, rfl, rfl, rfl, .t (tLog LQ), ?_, _, ⟨rfl, ks3, xs3, clk3, M3, rfl⟩, rfl⟩
  simp only [go_sem, Nat.reduceEqDiff, resV, resEs, lk, List.length_map, hlen, htk, allT_t]
def tzN (p : Nat) : Nat := ((List.range 48).find? (p.testBit ·)).getD 48
theorem tzN_spec {p : Nat} (hp : p < B48) (h0 : p ≠ 0) : p.testBit (tzN p) = true ∧ (∀ i < tzN p, p.testBit i = false) ∧ tzN p < 48 := by
  unfold tzN
  cases hf : (List.range 48).find? (p.testBit ·) with
  | some k =>
    obtain ⟨h1, i, hi, h2⟩ := List.find?_eq_some_iff_getElem.1 hf
    simp only [List.length_range] at hi
    obtain ⟨e, h3⟩ := h2
    rw [List.getElem_range] at e
    subst e
    refine ⟨h1, fun j hj => ?_, hi⟩
    have := h3 j hj
    rw [List.getElem_range] at this
    simpa using this
  | none =>
    exfalso
    apply h0
    apply Nat.eq_of_testBit_eq
    intro i
    rw [Nat.zero_testBit]
    by_cases c : i < 48
    · have := List.find?_eq_none.1 hf i (List.mem_range.2 c)
      simpa using this
    · exact Nat.testBit_lt_two_pow (Nat.lt_of_lt_of_le (show p < 2 ^ 48 from hp) (Nat.pow_le_pow_right (by decide) (by omega)))
def loR (b : Bo) (p : Nat) : Nat := tzN p / b.W
def hiR (b : Bo) (p : Nat) : Nat := (blen p - 1) / b.W
def spanS (b : Bo) (p : Nat) : Sp := ((loR b p : Nat), (hiR b p : Nat))
theorem blen_le {p : Nat} (hp : p < B48) : blen p ≤ 48 := by
  unfold blen
  split
  · omega
  · rename_i h0
    have h1 := Nat.log2_self_le h0
    have : p.log2 < 48 := by
      apply Classical.byContradiction
      intro c
      have h2 : 2 ^ 48 ≤ 2 ^ p.log2 := Nat.pow_le_pow_right (by decide) (by omega)
      have hp' : p < 2 ^ 48 := hp
      omega
    omega
theorem span_ok (b : Bo) (hb : b.OK) (x : T) (p : Nat) (hp : p < B48) (h0 : p ≠ 0) : ACall Tryz.prog 36 [.t (waT b x), .t (vu p)] [] (ret (tSp (spanS b p))) := by
  refine ACall.walk k36 ?_
  obtain ⟨t1, t2, t3⟩ := tzN_spec hp h0
  have h81 := tz64_ok p (tzN p) hp t1 t2
  have h82 := len64_ok p hp
  have hbl := blen_le hp
  have hbl1 : 1 ≤ blen p := by unfold blen; rw [if_neg h0]; omega
  obtain ⟨w1, w2, w3⟩ := hb.W
  have n0 : ¬ (b.wide = 0) := by omega
  have e1 : IntKind.i64.wrap ((tzN p : Int).tdiv b.wide) = ((loR b p : Nat) : Int) := by
    have := Nat.div_le_self (tzN p) b.W
    rw [w3, Int.tdiv_eq_ediv_of_nonneg (by omega), ← Int.natCast_ediv]
    unfold loR
    generalize tzN p / b.W = y at *
    exact wrap_id (by omega) (by omega)
  have wa : IntKind.i64.wrap ((blen p : Int) - 1) = ((blen p - 1 : Nat) : Int) := by rw [wrap_id (by omega) (by omega)]; omega
  have e2 : IntKind.i64.wrap (((blen p - 1 : Nat) : Int).tdiv b.wide) = ((hiR b p : Nat) : Int) := by
    have := Nat.div_le_self (blen p - 1) b.W
    rw [w3, Int.tdiv_eq_ediv_of_nonneg (by omega), ← Int.natCast_ediv]
    unfold hiR
    generalize (blen p - 1) / b.W = y at *
    exact wrap_id (by omega) (by omega)
  unfold spanS
  unfold c36
  simp only [go_sem, Nat.reduceEqDiff]
  refine ACallL.fresh1 h81 rfl ?_
  simp only [go_sem, Nat.reduceEqDiff, e1, n0]
  refine ACallL.fresh1 h82 rfl ?_
  simp only [go_sem, Nat.reduceEqDiff, Nat.reduceAdd, Nat.reduceLeDiff, undef, undef, n0, wa, e2]
  exact finL_ret [] ⟨rfl, rfl, rfl, rfl, _, rfl, res_mk rfl⟩
def firstO (r : Option Nat) : Out := match r with
  | some n => .ret (.tup [.t (vi n), .t (vb true)])
  | none => .ret (.tup [.t (vi 0), .t (vb false)])
set_option maxRecDepth 8000 in
set_option maxHeartbeats 4000000 in
theorem first_ok (b : Bo) (fc : Nat) (P : Nat → Bool) (ns : List Nat) (hl : ns.length < 100) (c2 : T)
    (hf : ∀ n ∈ ns, ∀ {ks : List (Nat × List Int)} {xs : List T} {clk : Nat}, MapOK b ks xs → ACall Tryz.prog fc [.t (vi n), .vp [waE b 0] 0, .t c2] [.map shQ ks xs clk] (waCallR b (.ret (.t (vb (P n))))))
    {ks : List (Nat × List Int)} {xs : List T} {clk : Nat} (M : MapOK b ks xs) :
    ACall Tryz.prog 69 [.t (.slice 1 (ns.map fun z : Nat => vi z)), .agg [.fn (.func fc) [] [.vp [waE b 0] 0, .t c2]]] [.map shQ ks xs clk] (waCallR b (firstO (ns.find? P))) := by
  refine ACall.walk k69 ?_
  unfold c69
  simp only [go_sem, Nat.reduceEqDiff, List.length_map]
  refine awpL_for (i := 10) (L := 9) ns.length (fun j st => (∀ n ∈ ns.take j, P n = false) ∧ ∃ ks xs clk, MapOK b ks xs ∧ st = { env := [(10, .t (vi j)), (9, .t (vi ns.length)), (8, .t (.slice 1 (ns.map fun z : Nat => vi z))), (3, .vp [.fn (.func fc) [] [.vp [waE b 0] 0, .t c2]] 0), (4, .t (vi 0)), (5, .t (vb false))], σ := [.map shQ ks xs clk] }) ?_
    ⟨_, Sub.gc [0] [10, 9, 8, 3, 4, 5] rfl rfl, by simp, ks, xs, clk, M, rfl⟩ ?_ ?_
  · rintro k st ⟨_, _, _, _, _, rfl⟩; exact ⟨rfl, rfl⟩
  · rintro j st hj ⟨hno, ks, xs, clk, M, rfl⟩
    have hwj : IntKind.i64.wrap ((j : Int) + 1) = ((j + 1 : Nat) : Int) := by rw [wrap_id (by omega) (by omega)]; omega
    have hx : ns[j]? = some ns[j] := List.getElem?_eq_getElem hj
    have hjj : (j : Int) < ns.length := by omega
    have tx : ns.take (j + 1) = ns.take j ++ [ns[j]] := by rw [List.take_add_one, hx]; rfl
    have hf := hf _ (List.getElem_mem hj) M (clk := clk)
    have hfind : P ns[j] = true → ns.find? P = some ns[j] := fun h => by
      rw [List.find?_eq_some_iff_getElem]
      refine ⟨h, j, hj, rfl, fun i hi => ?_⟩
      have := hno ns[i] (by rw [List.mem_take_iff_getElem]; exact ⟨i, by omega, rfl⟩)
      rw [this]; rfl
    generalize ns[j] = n at *
    simp only [go_sem, Nat.reduceEqDiff, List.getElem?_map, hx, Option.map_some]
    refine lend1 (m := 0) hf rfl rfl rfl ?_
    rintro o a ⟨rfl, ks2, xs2, clk2, M2, rfl⟩
    cases hb : P n
    · simp only [go_sem, Nat.reduceEqDiff, Out.ren, E.ren, AO.ren, hwj]
      refine ⟨_, Sub.gc [0] [10, 9, 8, 3, 4, 5] rfl rfl, fun i hi => ?_, ks2, xs2, clk2, M2, rfl⟩
      rw [tx] at hi
      rcases List.mem_append.1 hi with h | h
      · exact hno i h
      · simp at h; subst h; exact hb
    · rw [hfind hb]
      simp only [go_sem, Nat.reduceEqDiff, Out.ren, E.ren, AO.ren]
      exact finL_ret [0] ⟨rfl, rfl, rfl, rfl, _, rfl, _, ⟨rfl, ks2, xs2, clk2, M2, rfl⟩, rfl⟩
  · rintro st ⟨hno, ks, xs, clk, M, rfl⟩
    rw [List.take_length] at hno
    have hfind : ns.find? P = none := List.find?_eq_none.2 fun n hn => by rw [hno n hn]; simp
    rw [hfind]
    simp only [go_sem, Nat.reduceEqDiff]
    exact finL_ret [0] ⟨rfl, rfl, rfl, rfl, _, rfl, _, ⟨rfl, ks, xs, clk, M, rfl⟩, rfl⟩
open Go Go.Ab
def twoE (a b e : Int) : Out := .ret (.tup [.t (vi a), .t (vi b), .t (vi e)])
def spanE (d : Sp) (e : Int) : Out := .ret (.tup [.t (tSp d), .t (vi e)])
def canM (b : Bo) (boat m : Nat) : Nat := (logQ b (plainQ b boat)).getD m 0
abbrev isT (b : Bo) (boat : Nat) : Bool := canQ b (plainQ b boat)
open Go Go.Ab
def Fm (b : Bo) (q : Qu) (l : List Si) : Nat → Nat
  | 0 => allM b &&& heldM b q l 0 (allM b)
  | m + 1 => allM b &&& heldM b q l (m + 1) (stepsM b q.speed (Fm b q l m))
def Bk (b : Bo) (q : Qu) (l : List Si) : Nat → Nat
  | 0 => Fm b q l b.L &&& heldM b q l b.L (allM b)
  | k + 1 => Fm b q l (b.L - (k + 1)) &&& heldM b q l (b.L - (k + 1)) (stepsM b q.speed (Bk b q l k))
theorem stM_fwd (b : Bo) (hb : b.OK) (q : Qu) (l : List Si) : ∀ i ≤ b.L + 1, (stM b q l false (List.replicate 13 (allM b)) i).1 = (List.range 13).map (fun m => if m < i then Fm b q l m else allM b) ∧
    (stM b q l false (List.replicate 13 (allM b)) i).2 = (match i with | 0 => allM b | i + 1 => stepsM b q.speed (Fm b q l i))
  | 0, _ => by
    refine ⟨?_, rfl⟩
    show List.replicate 13 (allM b) = _
    simp only [Nat.not_lt_zero, if_false]
    rfl
  | i + 1, hi => by
    obtain ⟨h1, h2⟩ := stM_fwd b hb q l i (by omega)
    have hL := hb.L.1
    rw [stM_succ (by omega)]
    have hm : minN b false i = i := rfl
    rw [hm]
    have hg : (stM b q l false (List.replicate 13 (allM b)) i).1.getD i 0 = allM b := by
      rw [h1, List.getD_eq_getElem?_getD, List.getElem?_map, List.getElem?_range (by omega), Option.map_some, if_neg (by omega)]; rfl
    have hF : (stM b q l false (List.replicate 13 (allM b)) i).1.getD i 0 &&& heldM b q l i (stM b q l false (List.replicate 13 (allM b)) i).2 = Fm b q l i := by
      rw [hg, h2]
      cases i <;> rfl
    unfold roundM
    simp only
    rw [hF]
    refine ⟨?_, rfl⟩
    rw [h1]
    apply List.ext_getElem?
    intro j
    by_cases e : i = j
    · subst e
      rw [List.getElem?_set_self (by simp; omega), List.getElem?_map, List.getElem?_range (by omega), Option.map_some, if_pos (by omega)]
    · rw [List.getElem?_set_ne e, List.getElem?_map, List.getElem?_map]
      by_cases hj : j < 13
      · rw [List.getElem?_range hj, Option.map_some, Option.map_some]
        congr 1
        by_cases c : j < i
        · rw [if_pos c, if_pos (by omega)]
        · rw [if_neg c, if_neg (by omega)]
      · rw [List.getElem?_eq_none (by simp; omega)]; rfl
theorem fwd_is (b : Bo) (hb : b.OK) (q : Qu) (l : List Si) : passM b q l false (List.replicate 13 (allM b)) = (List.range 13).map (fun m => if m < b.L + 1 then Fm b q l m else allM b) := by
  rw [← stM_last]
  exact (stM_fwd b hb q l (b.L + 1) (Nat.le_refl _)).1
theorem stM_bwd (b : Bo) (hb : b.OK) (q : Qu) (l : List Si) : ∀ i ≤ b.L + 1, (stM b q l true ((List.range 13).map (fun m => if m < b.L + 1 then Fm b q l m else allM b)) i).1 = (List.range 13).map (fun m => if m < b.L + 1 then (if b.L < m + i then Bk b q l (b.L - m) else Fm b q l m) else allM b) ∧
    (stM b q l true ((List.range 13).map (fun m => if m < b.L + 1 then Fm b q l m else allM b)) i).2 = (match i with | 0 => allM b | i + 1 => stepsM b q.speed (Bk b q l i))
  | 0, _ => by
    refine ⟨?_, rfl⟩
    unfold stM
    rw [List.take_zero, List.foldl_nil]
    apply List.map_congr_left
    intro m _
    by_cases c : m < b.L + 1
    · rw [if_pos c, if_pos c, if_neg (by omega)]
    · rw [if_neg c, if_neg c]
  | i + 1, hi => by
    obtain ⟨h1, h2⟩ := stM_bwd b hb q l i (by omega)
    have hL := hb.L.1
    rw [stM_succ (by omega)]
    have hm : minN b true i = b.L - i := rfl
    rw [hm]
    generalize hst : stM b q l true ((List.range 13).map (fun m => if m < b.L + 1 then Fm b q l m else allM b)) i = st at *
    have hg : st.1.getD (b.L - i) 0 = Fm b q l (b.L - i) := by
      rw [h1, List.getD_eq_getElem?_getD, List.getElem?_map, List.getElem?_range (by omega), Option.map_some, if_pos (by omega), if_neg (by omega)]; rfl
    have hF : st.1.getD (b.L - i) 0 &&& heldM b q l (b.L - i) st.2 = Bk b q l i := by
      rw [hg, h2]
      cases i <;> rfl
    unfold roundM
    simp only
    rw [hF]
    refine ⟨?_, rfl⟩
    rw [h1]
    apply List.ext_getElem?
    intro j
    by_cases e : b.L - i = j
    · subst e
      rw [List.getElem?_set_self (by simp; omega), List.getElem?_map, List.getElem?_range (by omega), Option.map_some, if_pos (by omega), if_pos (by omega), show b.L - (b.L - i) = i by omega]
    · rw [List.getElem?_set_ne e, List.getElem?_map, List.getElem?_map]
      by_cases hj : j < 13
      · rw [List.getElem?_range hj, Option.map_some, Option.map_some]
        congr 1
        by_cases c : j < b.L + 1
        · rw [if_pos c, if_pos c]
          by_cases c2 : b.L < j + i
          · rw [if_pos c2, if_pos (by omega)]
          · rw [if_neg c2, if_neg (by omega)]
        · rw [if_neg c, if_neg c]
      · rw [List.getElem?_eq_none (by simp; omega)]; rfl
def canAt (b : Bo) (q : Qu) (m : Nat) : Nat := (logQ b q).getD m 0
theorem canAt_is {b : Bo} (hb : b.OK) (q : Qu) {m : Nat} (hm : m ≤ b.L) : canAt b q m = Bk b q (b.seen.getD q.boat []) (b.L - m) := by
  unfold canAt logQ followM
  rw [fwd_is b hb, ← stM_last, (stM_bwd b hb q _ (b.L + 1) (Nat.le_refl _)).1, List.getD_eq_getElem?_getD, List.getElem?_map, List.getElem?_range (by have := hb.L.1; omega), Option.map_some, if_pos (by omega), if_pos (by omega)]
  rfl
def dist (b : Bo) (i j : Nat) : Nat := (i % b.W - j % b.W) + (j % b.W - i % b.W) + ((i / b.W - j / b.W) + (j / b.W - i / b.W))
theorem dist_comm (b : Bo) (i j : Nat) : dist b i j = dist b j i := by unfold dist; omega
theorem dist_self (b : Bo) (i : Nat) : dist b i i = 0 := by unfold dist; omega
theorem dist_tri (b : Bo) (i j k : Nat) : dist b i k ≤ dist b i j + dist b j k := by unfold dist; omega
theorem dist_zero {b : Bo} {i j : Nat} (h : dist b i j = 0) : i = j := by
  unfold dist at h
  have h1 : i % b.W = j % b.W := by omega
  have h2 : i / b.W = j / b.W := by omega
  rw [← Nat.div_add_mod i b.W, ← Nat.div_add_mod j b.W, h1, h2]
def In (b : Bo) (p : Nat) : Prop := ∀ i, p.testBit i = true → i < b.N
theorem allM_bit (b : Bo) (i : Nat) : (allM b).testBit i = decide (i < b.N) := by show (maskOf _ _).testBit i = _; rw [maskOf_bit, Bool.and_true]
theorem left_bit (b : Bo) (i : Nat) : (leftM b).testBit i = (decide (i < b.N) && decide (i % b.W = 0)) := maskOf_bit _ _ _
theorem right_bit (b : Bo) (i : Nat) : (rightM b).testBit i = (decide (i < b.N) && decide (i % b.W = b.W - 1)) := maskOf_bit _ _ _
theorem row_lt {b : Bo} (hb : b.OK) {i : Nat} (h : i < b.N) : i % b.W < b.W ∧ i / b.W < b.D := by
  have hW := hb.W.1
  exact ⟨Nat.mod_lt _ (by omega), Nat.div_lt_of_lt_mul h⟩
theorem uniq {W r c r' c' : Nat} (hc : c < W) (hc' : c' < W) : r * W + c = r' * W + c' ↔ r = r' ∧ c = c' := by
  rw [pos_eq hc, (pos_of hc').1, (pos_of hc').2]
  constructor <;> rintro ⟨h1, h2⟩ <;> exact ⟨h1.symm, h2.symm⟩
theorem coord {b : Bo} (hb : b.OK) (i : Nat) : i = i / b.W * b.W + i % b.W := by rw [Nat.mul_comm]; exact (Nat.div_add_mod i b.W).symm
theorem near_iff {b : Bo} (hb : b.OK) {i j : Nat} (hi : i < b.N) (hj : j < b.N) : dist b i j ≤ 1 ↔ j = i ∨ (j = i + 1 ∧ j % b.W ≠ 0) ∨ (i = j + 1 ∧ j % b.W ≠ b.W - 1) ∨ j = i + b.W ∨ i = j + b.W := by
  obtain ⟨i1, i2⟩ := row_lt hb hi
  obtain ⟨j1, j2⟩ := row_lt hb hj
  have ei := coord hb i
  have ej := coord hb j
  unfold dist
  generalize i % b.W = ci at *
  generalize i / b.W = ri at *
  generalize j % b.W = cj at *
  generalize j / b.W = rj at *
  subst ei ej
  clear hi hj
  have q1 : rj * b.W + cj = ri * b.W + ci ↔ rj = ri ∧ cj = ci := uniq j1 i1
  have q2 : (rj * b.W + cj = ri * b.W + ci + 1 ∧ cj ≠ 0) ↔ rj = ri ∧ cj = ci + 1 := by
    constructor
    · rintro ⟨h1, h2⟩
      have := (uniq (r := rj) (c := cj - 1) (r' := ri) (c' := ci) (by omega) i1).1 (by omega)
      omega
    · rintro ⟨h1, h2⟩
      rw [h1, h2]; omega
  have q3 : (ri * b.W + ci = rj * b.W + cj + 1 ∧ cj ≠ b.W - 1) ↔ ri = rj ∧ ci = cj + 1 := by
    constructor
    · rintro ⟨h1, h2⟩
      exact (uniq (r := ri) (c := ci) (r' := rj) (c' := cj + 1) i1 (by omega)).1 (by omega)
    · rintro ⟨h1, h2⟩
      rw [h1, h2]; omega
  have q4 : rj * b.W + cj = ri * b.W + ci + b.W ↔ rj = ri + 1 ∧ cj = ci := by
    rw [← uniq j1 i1, Nat.add_mul, Nat.one_mul]
    omega
  have q5 : ri * b.W + ci = rj * b.W + cj + b.W ↔ ri = rj + 1 ∧ ci = cj := by
    rw [← uniq i1 j1, Nat.add_mul, Nat.one_mul]
    omega
  rw [q1, q2, q3, q4, q5]
  omega
theorem step_bit {b : Bo} (hb : b.OK) {p : Nat} (hp : In b p) (i : Nat) : (stepM b p).testBit i = true ↔ i < b.N ∧ ∃ j, p.testBit j = true ∧ dist b i j ≤ 1 := by
  unfold stepM
  rw [Nat.testBit_and, allM_bit, orL_bit, Bool.and_eq_true, decide_eq_true_eq]
  refine and_congr_right fun hi => ?_
  have s1 : (ndiff p (leftM b) / 2).testBit i = (p.testBit (i + 1) && !(leftM b).testBit (i + 1)) := by rw [← ndiff_bit, ← Nat.testBit_succ]
  have s2 : (ndiff p (rightM b) <<< 1).testBit i = (decide (i ≥ 1) && (p.testBit (i - 1) && !(rightM b).testBit (i - 1))) := by rw [Nat.testBit_shiftLeft, ndiff_bit]
  simp only [List.any_cons, List.any_nil, Bool.or_false]
  rw [s1, s2, Nat.testBit_div_two_pow, Nat.testBit_shiftLeft, left_bit, right_bit]
  simp only [Bool.or_eq_true, Bool.and_eq_true, Bool.not_eq_true', decide_eq_true_eq, Bool.and_eq_false_iff, decide_eq_false_iff_not]
  constructor
  · rintro (h | ⟨h, h2⟩ | ⟨h0, h, h2⟩ | h | ⟨h0, h⟩)
    · exact ⟨i, h, by rw [dist_self]; omega⟩
    · have hj := hp _ h
      refine ⟨i + 1, h, (near_iff hb hi hj).2 (.inr (.inl ⟨rfl, ?_⟩))⟩
      rcases h2 with h2 | h2
      · exact absurd hj h2
      · exact h2
    · have hj := hp _ h
      refine ⟨i - 1, h, (near_iff hb hi hj).2 (.inr (.inr (.inl ⟨by omega, ?_⟩)))⟩
      rcases h2 with h2 | h2
      · exact absurd hj h2
      · exact h2
    · have hj := hp _ h
      exact ⟨i + b.W, h, (near_iff hb hi hj).2 (.inr (.inr (.inr (.inl rfl))))⟩
    · have hj := hp _ h
      exact ⟨i - b.W, h, (near_iff hb hi hj).2 (.inr (.inr (.inr (.inr (by omega)))))⟩
  · rintro ⟨j, h, hd⟩
    have hj := hp _ h
    rcases (near_iff hb hi hj).1 hd with rfl | ⟨rfl, h2⟩ | ⟨rfl, h2⟩ | rfl | rfl
    · exact .inl h
    · exact .inr (.inl ⟨h, .inr h2⟩)
    · exact .inr (.inr (.inl ⟨by omega, by rw [Nat.add_sub_cancel]; exact h, .inr (by rw [Nat.add_sub_cancel]; exact h2)⟩))
    · exact .inr (.inr (.inr (.inl h)))
    · exact .inr (.inr (.inr (.inr ⟨by omega, by rw [Nat.add_sub_cancel]; exact h⟩)))
theorem In.step {b : Bo} (p : Nat) : In b (stepM b p) := fun i hi => by
  unfold stepM at hi
  rw [Nat.testBit_and, allM_bit, Bool.and_eq_true, decide_eq_true_eq] at hi
  exact hi.1
theorem In.steps {b : Bo} {p : Nat} (hp : In b p) : ∀ k, In b (stepsM b k p)
  | 0 => hp
  | k + 1 => In.step _
theorem between {b : Bo} (hb : b.OK) {i j : Nat} (hi : i < b.N) (hj : j < b.N) {k : Nat} (h : dist b i j ≤ k + 1) : ∃ u, u < b.N ∧ dist b i u ≤ 1 ∧ dist b u j ≤ k := by
  by_cases h0 : dist b i j ≤ k
  · exact ⟨i, hi, by rw [dist_self]; omega, h0⟩
  obtain ⟨i1, i2⟩ := row_lt hb hi
  obtain ⟨j1, j2⟩ := row_lt hb hj
  have mk : ∀ r c, c < b.W → r < b.D → (r * b.W + c < b.N ∧ (r * b.W + c) % b.W = c ∧ (r * b.W + c) / b.W = r) := fun r c hc hr => ⟨pos_lt hc hr, (pos_of hc).2, (pos_of hc).1⟩
  unfold dist at h h0 ⊢
  generalize i % b.W = ci at *
  generalize i / b.W = ri at *
  generalize j % b.W = cj at *
  generalize j / b.W = rj at *
  by_cases c1 : ci < cj
  · obtain ⟨q1, q2, q3⟩ := mk ri (ci + 1) (by omega) i2
    exact ⟨_, q1, by rw [q2, q3]; omega, by rw [q2, q3]; omega⟩
  · by_cases c2 : cj < ci
    · obtain ⟨q1, q2, q3⟩ := mk ri (ci - 1) (by omega) i2
      exact ⟨_, q1, by rw [q2, q3]; omega, by rw [q2, q3]; omega⟩
    · by_cases c3 : ri < rj
      · obtain ⟨q1, q2, q3⟩ := mk (ri + 1) ci i1 (by omega)
        exact ⟨_, q1, by rw [q2, q3]; omega, by rw [q2, q3]; omega⟩
      · obtain ⟨q1, q2, q3⟩ := mk (ri - 1) ci i1 (by omega)
        exact ⟨_, q1, by rw [q2, q3]; omega, by rw [q2, q3]; omega⟩
theorem steps_bit {b : Bo} (hb : b.OK) {p : Nat} (hp : In b p) : ∀ (k i : Nat), (stepsM b k p).testBit i = true ↔ i < b.N ∧ ∃ j, p.testBit j = true ∧ dist b i j ≤ k
  | 0, i => by
    show p.testBit i = true ↔ _
    constructor
    · intro h; exact ⟨hp i h, i, h, by rw [dist_self]; omega⟩
    · rintro ⟨_, j, h, hd⟩
      rw [dist_zero (Nat.le_zero.1 hd)]; exact h
  | k + 1, i => by
    show (stepM b (stepsM b k p)).testBit i = true ↔ _
    rw [step_bit hb (hp.steps k)]
    refine and_congr_right fun hi => ?_
    constructor
    · rintro ⟨u, h, hd⟩
      obtain ⟨_, j, h1, h2⟩ := (steps_bit hb hp k u).1 h
      exact ⟨j, h1, by have := dist_tri b i u j; omega⟩
    · rintro ⟨j, h, hd⟩
      obtain ⟨u, q1, q2, q3⟩ := between hb hi (hp j h) hd
      exact ⟨u, (steps_bit hb hp k u).2 ⟨q1, j, h, q3⟩, q2⟩
open Go Go.Ab
structure okP (b : Bo) (q : Qu) (l : List Si) (m i : Nat) : Prop where
  lt : i < b.N
  row : q.row ≤ i / b.W
  saw : ∀ s ∈ kept l q.without l.length, s.minute = m → inB b s i = true
theorem and_bit (L : List Nat) : ∀ (x i : Nat), (andL x L).testBit i = true ↔ x.testBit i = true ∧ ∀ y ∈ L, y.testBit i = true := by
  induction L with
  | nil => intro x i; simp [andL]
  | cons y L ih =>
    intro x i
    show (andL (x &&& y) L).testBit i = true ↔ _
    rw [ih, Nat.testBit_and, Bool.and_eq_true]
    simp only [List.mem_cons, forall_eq_or_imp, and_assoc]
theorem at_bit (b : Bo) (m : Nat) (s : Si) {i : Nat} (hi : i < b.N) : (atM b m s).testBit i = true ↔ (s.minute = m → inB b s i = true) := by
  unfold atM
  split
  · rename_i h
    unfold rectM
    rw [maskOf_bit, decide_eq_true hi, Bool.true_and]
    exact ⟨fun h1 _ => h1, fun h1 => h1 h⟩
  · rename_i h
    rw [allM_bit, decide_eq_true hi]
    exact ⟨fun _ h1 => absurd h1 h, fun _ => rfl⟩
theorem row_bit {b : Bo} (hb : b.OK) (n i : Nat) : (rowM b n).testBit i = true ↔ i < b.N ∧ n ≤ i / b.W := by
  rw [rowM_bit, Bool.and_eq_true, decide_eq_true_eq, decide_eq_true_eq, and_comm, Nat.le_div_iff_mul_le (by have := hb.W.1; omega)]
theorem held_bit {b : Bo} (hb : b.OK) (q : Qu) (l : List Si) (m c i : Nat) : (heldM b q l m c).testBit i = true ↔ c.testBit i = true ∧ okP b q l m i := by
  unfold heldM heldL
  rw [and_bit]
  simp only [List.mem_cons, forall_eq_or_imp, List.mem_map, forall_exists_index, and_imp, forall_apply_eq_imp_iff₂, row_bit hb]
  constructor
  · rintro ⟨h1, ⟨h2, h3⟩, h4⟩
    exact ⟨h1, h2, h3, fun s hs => (at_bit b m s h2).1 (h4 s hs)⟩
  · rintro ⟨h1, h2⟩
    exact ⟨h1, ⟨h2.lt, h2.row⟩, fun s hs => (at_bit b m s h2.lt).2 (h2.saw s hs)⟩
structure Goes' (b : Bo) (q : Qu) (l : List Si) (m0 m1 : Nat) (x : Nat → Nat) : Prop where
  ok : ∀ j, m0 ≤ j → j ≤ m1 → okP b q l j (x j)
  near : ∀ j, m0 ≤ j → j < m1 → dist b (x j) (x (j + 1)) ≤ q.speed
abbrev Truth (b : Bo) (q : Qu) (l : List Si) (x : Nat → Nat) : Prop := Goes' b q l 0 b.L x
theorem all_bit_of {b : Bo} {i : Nat} (h : i < b.N) : (allM b).testBit i = true := by rw [allM_bit, decide_eq_true h]
theorem Fm_bit {b : Bo} (hb : b.OK) (q : Qu) (l : List Si) : ∀ (m i : Nat), (Fm b q l m).testBit i = true ↔ ∃ x, Goes' b q l 0 m x ∧ x m = i
  | 0, i => by
    show (allM b &&& heldM b q l 0 (allM b)).testBit i = true ↔ _
    rw [Nat.testBit_and, Bool.and_eq_true, held_bit hb]
    constructor
    · rintro ⟨_, _, h⟩
      exact ⟨fun _ => i, ⟨fun j _ hj => by rw [Nat.le_zero.1 hj]; exact h, fun j _ hj => by omega⟩, rfl⟩
    · rintro ⟨x, h, rfl⟩
      have := h.ok 0 (Nat.le_refl _) (Nat.le_refl _)
      exact ⟨all_bit_of this.lt, all_bit_of this.lt, this⟩
  | m + 1, i => by
    have hin : In b (Fm b q l m) := fun j hj => by
      obtain ⟨x, h, rfl⟩ := (Fm_bit hb q l m j).1 hj
      exact (h.ok m (Nat.zero_le _) (Nat.le_refl _)).lt
    show (allM b &&& heldM b q l (m + 1) (stepsM b q.speed (Fm b q l m))).testBit i = true ↔ _
    rw [Nat.testBit_and, Bool.and_eq_true, held_bit hb, steps_bit hb hin]
    constructor
    · rintro ⟨_, ⟨_, j, hj, hd⟩, h⟩
      obtain ⟨x, hx, rfl⟩ := (Fm_bit hb q l m j).1 hj
      refine ⟨fun k => if k ≤ m then x k else i, ⟨fun k h0 hk => ?_, fun k h0 hk => ?_⟩, by simp only; rw [if_neg (by omega)]⟩
      · by_cases c : k ≤ m
        · rw [if_pos c]; exact hx.ok k h0 c
        · rw [if_neg c, show k = m + 1 by omega]; exact h
      · by_cases c : k < m
        · rw [if_pos (by omega), if_pos (by omega)]; exact hx.near k h0 c
        · rw [if_pos (by omega), if_neg (by omega), show k = m by omega, dist_comm]; exact hd
    · rintro ⟨x, h, rfl⟩
      have h1 := h.ok (m + 1) (Nat.zero_le _) (Nat.le_refl _)
      refine ⟨all_bit_of h1.lt, ⟨h1.lt, x m, (Fm_bit hb q l m _).2 ⟨x, ⟨fun k h0 hk => h.ok k h0 (by omega), fun k h0 hk => h.near k h0 (by omega)⟩, rfl⟩, ?_⟩, h1⟩
      rw [dist_comm]
      exact h.near m (Nat.zero_le _) (by omega)
theorem Bk_bit {b : Bo} (hb : b.OK) (q : Qu) (l : List Si) : ∀ (k i : Nat), k ≤ b.L → ((Bk b q l k).testBit i = true ↔ ∃ x, Truth b q l x ∧ x (b.L - k) = i)
  | 0, i, _ => by
    show (Fm b q l b.L &&& heldM b q l b.L (allM b)).testBit i = true ↔ _
    rw [Nat.testBit_and, Bool.and_eq_true, held_bit hb, Fm_bit hb]
    constructor
    · rintro ⟨h, _⟩; exact h
    · rintro ⟨x, h, e⟩
      have := h.ok b.L (Nat.zero_le _) (Nat.le_refl _)
      rw [Nat.sub_zero] at e
      rw [e] at this
      exact ⟨⟨x, h, e⟩, all_bit_of this.lt, this⟩
  | k + 1, i, hk => by
    have hin : In b (Bk b q l k) := fun j hj => by
      obtain ⟨x, h, rfl⟩ := (Bk_bit hb q l k j (by omega)).1 hj
      exact (h.ok _ (Nat.zero_le _) (by omega)).lt
    show (Fm b q l (b.L - (k + 1)) &&& heldM b q l (b.L - (k + 1)) (stepsM b q.speed (Bk b q l k))).testBit i = true ↔ _
    rw [Nat.testBit_and, Bool.and_eq_true, held_bit hb, Fm_bit hb, steps_bit hb hin]
    constructor
    · rintro ⟨⟨x, hx, hxi⟩, ⟨_, j, hj, hd⟩, h⟩
      obtain ⟨y, hy, hyj⟩ := (Bk_bit hb q l k j (by omega)).1 hj
      refine ⟨fun t => if t ≤ b.L - (k + 1) then x t else y t, ⟨fun t h0 ht => ?_, fun t h0 ht => ?_⟩, by simp only; rw [if_pos (Nat.le_refl _)]; exact hxi⟩
      · by_cases c : t ≤ b.L - (k + 1)
        · rw [if_pos c]; exact hx.ok t h0 c
        · rw [if_neg c]; exact hy.ok t h0 ht
      · by_cases c : t < b.L - (k + 1)
        · rw [if_pos (by omega), if_pos (by omega)]; exact hx.near t h0 c
        · by_cases c2 : t = b.L - (k + 1)
          · subst c2
            rw [if_pos (Nat.le_refl _), if_neg (by omega), hxi, show b.L - (k + 1) + 1 = b.L - k by omega, hyj]; exact hd
          · rw [if_neg (by omega), if_neg (by omega)]; exact hy.near t h0 ht
    · rintro ⟨x, h, rfl⟩
      have h1 := h.ok (b.L - (k + 1)) (Nat.zero_le _) (by omega)
      refine ⟨⟨x, ⟨fun t h0 ht => h.ok t h0 (by omega), fun t h0 ht => h.near t h0 (by omega)⟩, rfl⟩, ⟨h1.lt, x (b.L - k), (Bk_bit hb q l k _ (by omega)).2 ⟨x, h, rfl⟩, ?_⟩, h1⟩
      have := h.near (b.L - (k + 1)) (Nat.zero_le _) (by omega)
      rw [show b.L - (k + 1) + 1 = b.L - k by omega] at this
      exact this
abbrev TrQ (b : Bo) (q : Qu) (x : Nat → Nat) : Prop := Truth b q (b.seen.getD q.boat []) x
theorem canAt_bit {b : Bo} (hb : b.OK) (q : Qu) {m : Nat} (hm : m ≤ b.L) (i : Nat) : (canAt b q m).testBit i = true ↔ ∃ x, TrQ b q x ∧ x m = i := by
  rw [canAt_is hb q hm, Bk_bit hb q _ _ i (by omega), show b.L - (b.L - m) = m by omega]
theorem ne0_iff (p : Nat) : p ≠ 0 ↔ ∃ i, p.testBit i = true := by
  constructor
  · intro h
    exact ⟨p.log2, Nat.testBit_log2 h⟩
  · rintro ⟨i, h⟩ rfl
    simp at h
theorem canAt_ne0 {b : Bo} (hb : b.OK) (q : Qu) {m : Nat} (hm : m ≤ b.L) : canAt b q m ≠ 0 ↔ ∃ x, TrQ b q x := by
  rw [ne0_iff]
  constructor
  · rintro ⟨i, h⟩
    obtain ⟨x, hx, _⟩ := (canAt_bit hb q hm i).1 h
    exact ⟨x, hx⟩
  · rintro ⟨x, hx⟩
    exact ⟨x m, (canAt_bit hb q hm _).2 ⟨x, hx, rfl⟩⟩
theorem canQ_iff {b : Bo} (hb : b.OK) (q : Qu) : canQ b q = true ↔ ∃ x, TrQ b q x := by
  rw [← canAt_ne0 hb q (Nat.zero_le _)]
  unfold canQ canAt
  simp
theorem canAt_lt {b : Bo} (hb : b.OK) (q : Qu) (m : Nat) : canAt b q m < B48 := by
  unfold canAt
  by_cases h : m < 13
  · exact logQ_lt hb _ _ (List.mem_of_getElem? (log_at hb _ h))
  · rw [List.getD_eq_getElem?_getD, List.getElem?_eq_none (by rw [logQ_len hb]; omega)]
    exact Nat.two_pow_pos 48
theorem span_lo {b : Bo} {p : Nat} (hp : p < B48) (h0 : p ≠ 0) : (∃ i, p.testBit i = true ∧ i / b.W = loR b p) ∧ ∀ i, p.testBit i = true → loR b p ≤ i / b.W := by
  obtain ⟨h1, h2, _⟩ := tzN_spec hp h0
  refine ⟨⟨_, h1, rfl⟩, fun i hi => ?_⟩
  unfold loR
  apply Nat.div_le_div_right
  apply Classical.byContradiction
  intro c
  rw [h2 i (by omega)] at hi
  cases hi
theorem span_hi {b : Bo} {p : Nat} (h0 : p ≠ 0) : (∃ i, p.testBit i = true ∧ i / b.W = hiR b p) ∧ ∀ i, p.testBit i = true → i / b.W ≤ hiR b p := by
  obtain ⟨h1, h2⟩ := blen_top h0
  exact ⟨⟨_, h1, rfl⟩, fun i hi => Nat.div_le_div_right (h2 i hi)⟩
open Go Go.Ab
def rowQ (b : Bo) (boat n : Nat) : Qu := { plainQ b boat with row := n }
abbrev boxB (boat : Nat) : T := .ptr (.agg [vi boat]) 0
set_option maxRecDepth 8000 in
theorem tryRow_ok (b : Bo) (hb : b.OK) (boat : Nat) (hbo : boat < b.seen.length) (n : Nat) (hn : n ≤ 6) {ks : List (Nat × List Int)} {xs : List T} {clk : Nat} (M : MapOK b ks xs) :
    ACall Tryz.prog 71 [.t (vi n), .vp [waE b 0] 0, .t (boxB boat)] [.map shQ ks xs clk] (waCallR b (.ret (.t (vb (!canQ b (rowQ b boat (n + 1))))))) := by
  refine ACall.walk k71 ?_
  have hq := plainQ_ok hb hbo
  have h76 := plain_ok b hb .hole boat
  have h72 := can_ok b hb (rowQ b boat (n + 1)) ⟨hq.boat, hq.without, by unfold rowQ; simp only; omega, hq.speed⟩ M (clk := clk)
  have hr : rowQ b boat (n + 1) = ⟨(plainQ b boat).boat, (plainQ b boat).without, n + 1, (plainQ b boat).speed⟩ := rfl
  have hwn : IntKind.i64.wrap ((n : Int) + 1) = ((n + 1 : Nat) : Int) := by rw [wrap_id (by omega) (by omega)]; omega
  generalize canQ b (rowQ b boat (n + 1)) = c at *
  rw [hr] at h72
  generalize plainQ b boat = q at *
  obtain ⟨q1, q2, q3, q4⟩ := q
  unfold c71
  simp only [go_sem, Nat.reduceEqDiff, Nat.reduceAdd]
  refine ACallL.weak1 h76 rfl ?_
  simp only [go_sem, Nat.reduceEqDiff, Nat.reduceAdd, Nat.reduceLeDiff, undef, undef, hwn]
  refine lend1 (m := 0) h72 rfl rfl rfl ?_
  rintro o a ⟨rfl, ks2, xs2, clk2, M2, rfl⟩
  simp only [go_sem, Nat.reduceEqDiff, Out.ren, E.ren, AO.ren]
  exact finL_ret [0] ⟨rfl, rfl, rfl, rfl, _, rfl, _, ⟨rfl, ks2, xs2, clk2, M2, rfl⟩, rfl⟩
theorem gc_ptr {kp : List Nat} {σ : List AO} {id n off : Nat} {ts : List T} (h : pos? kp id = none) (ho : σ[id]? = some (.cells (ts.map E.t))) : E.gc kp σ (n + 2) (.ptr id off) = .t (.ptr (.agg ts) off) := by
  rw [E.gc]
  simp only [h, ho, gc_row, allT_t]
def nearHi (b : Bo) (boat : Nat) : Nat := ((List.range (b.D + 1)).find? fun n => !canQ b (rowQ b boat (n + 1))).getD 0
def nearAll (b : Bo) (boat : Nat) : Nat := orL ((logQ b (plainQ b boat)).take (b.L + 1))
def nearS (b : Bo) (boat : Nat) : Sp := ((loR b (nearAll b boat) : Nat), (nearHi b boat : Nat))
theorem nearAll_bit {b : Bo} (hb : b.OK) (boat i : Nat) : (nearAll b boat).testBit i = true ↔ ∃ m ≤ b.L, (canAt b (plainQ b boat) m).testBit i = true := by
  unfold nearAll
  rw [orL_bit, List.any_eq_true]
  have hlen := logQ_len hb (plainQ b boat)
  have hL := hb.L.1
  constructor
  · rintro ⟨p, hp, h⟩
    obtain ⟨m, hm, e⟩ := List.mem_take_iff_getElem.1 hp
    have hm' : m < b.L + 1 ∧ m < (logQ b (plainQ b boat)).length := by omega
    refine ⟨m, by omega, ?_⟩
    unfold canAt
    rw [List.getD_eq_getElem?_getD, List.getElem?_eq_getElem hm'.2, Option.getD_some, e]; exact h
  · rintro ⟨m, hm, h⟩
    refine ⟨canAt b (plainQ b boat) m, List.mem_take_iff_getElem.2 ⟨m, by omega, ?_⟩, h⟩
    have := log_at hb (plainQ b boat) (m := m) (by omega)
    exact (List.getElem?_eq_some_iff.1 this).2
theorem nearAll_lt {b : Bo} (hb : b.OK) (boat : Nat) : nearAll b boat < B48 := orL_lt (n := 48) fun x hx => logQ_lt hb _ x (List.mem_of_mem_take hx)
theorem nearAll_ne {b : Bo} (hb : b.OK) {boat : Nat} (h : canQ b (plainQ b boat) = true) : nearAll b boat ≠ 0 := by
  rw [ne0_iff]
  obtain ⟨i, hi⟩ := (ne0_iff _).1 ((canAt_ne0 hb (plainQ b boat) (Nat.zero_le _)).2 ((canQ_iff hb _).1 h))
  exact ⟨i, (nearAll_bit hb boat i).2 ⟨0, Nat.zero_le _, hi⟩⟩
abbrev nearO (b : Bo) (boat : Nat) : Out := if canQ b (plainQ b boat) then .ret (.t (tSp (nearS b boat))) else .pan (rfs 10)
set_option maxRecDepth 8000 in
set_option maxHeartbeats 4000000 in
theorem nearest_ok (b : Bo) (hb : b.OK) (boat : Nat) (hbo : boat < b.seen.length) {ks : List (Nat × List Int)} {xs : List T} {clk : Nat} (M : MapOK b ks xs) :
    ACall Tryz.prog 44 [waE b 0, .t (vi boat)] [.map shQ ks xs clk] (waCallR b (nearO b boat)) := by
  refine ACall.walk k44 ?_
  have h52 := told_ok b hb boat hbo M (clk := clk)
  have hne := nearAll_ne hb (boat := boat)
  have hlt := nearAll_lt hb boat
  have hlen := logQ_len hb (plainQ b boat)
  have hL := hb.L
  have h83 := union_ok ((logQ b (plainQ b boat)).take (b.L + 1)) (fun x hx => Nat.lt_of_lt_of_le (logQ_lt hb _ x (List.mem_of_mem_take hx)) (by decide)) (by rw [List.length_take]; omega)
  have h55 := fun x => span_ok b hb x (nearAll b boat) hlt
  have h70 := upTo_ok b.D (by have := hb.D; omega)
  have hfi := fun {ks : List (Nat × List Int)} {xs : List T} {clk : Nat} (M : MapOK b ks xs) => first_ok b 71 (fun n => !canQ b (rowQ b boat (n + 1))) (List.range (b.D + 1)) (by have := hb.D; simp; omega) (boxB boat)
    (fun n hn ks xs clk M => tryRow_ok b hb boat hbo n (by have := hb.D; have := List.mem_range.1 hn; omega) M) M (clk := clk)
  have wl : IntKind.i64.wrap (b.last + 1) = ((b.L + 1 : Nat) : Int) := by rw [wrap_id (by omega) (by omega)]; omega
  have hdD : b.deep = b.D := hb.D.2.2
  unfold toldO at h52
  unfold nearO nearS nearHi
  rw [show orL ((logQ b (plainQ b boat)).take (b.L + 1)) = nearAll b boat from rfl] at h83
  generalize nearAll b boat = A at *
  generalize (List.range (b.D + 1)).find? (fun n => !canQ b (rowQ b boat (n + 1))) = r at *
  generalize hcq : canQ b (plainQ b boat) = c at *
  generalize logQ b (plainQ b boat) = LQ at *
  unfold c44
  simp only [go_sem, Nat.reduceEqDiff, Nat.reduceAdd]
  refine lend1 (m := 0) h52 rfl rfl rfl ?_
  rintro o a ⟨rfl, ks2, xs2, clk2, M2, rfl⟩
  cases c
  · simp only [go_sem, Nat.reduceEqDiff, Out.ren, AO.ren]
    exact finL_pan [0] ⟨rfl, rfl, rfl, rfl, _, ⟨rfl, ks2, xs2, clk2, M2, rfl⟩, rfl⟩
  have hdr : List.drop 13 (List.map E.t (List.map (fun p : Nat => vu p) LQ)) = [] := List.drop_eq_nil_of_le (by simp [hlen])
  simp only [go_sem, Nat.reduceEqDiff, Nat.reduceAdd, undef, undef, Out.ren, E.ren, AO.ren, List.length_map, hlen]
  refine awpL_gcpE [0, 3] [2, 3, 4, 5] { env := [(2, .vp [waE b 0] 0), (3, .t (boxB boat)), (4, .ptr 1 0), (5, .t (.ptr (tLog LQ) 0))], σ := [.map shQ ks2 xs2 clk2, .cells [.t (vi 0), .t (vi 0)]], df := [], k := 0 } (St.gc_mk (by
    simp only [List.map_cons, List.map_nil, lk, Nat.reduceEqDiff, reduceIte]
    rw [gc_ptr (id := 4) (n := 10) (ts := LQ.map fun p : Nat => vu p) rfl rfl]
    rfl) rfl rfl rfl) rfl rfl ?_
  have hb13 : (((b.L + 1 : Nat) : Int) ≤ 13) := by omega
  rw [List.map_take] at h83
  have hl13 : 13 ≤ LQ.length := by omega
  simp only [go_sem, Nat.reduceEqDiff, Nat.reduceAdd, Nat.reduceLeDiff, Int.reduceLE, bnd, wl, Nat.sub_zero, List.length_map]
  refine ⟨⟨hb13, hl13⟩, ?_⟩
  refine ACallL.fresh1 h83 rfl ?_
  simp only [go_sem, Nat.reduceEqDiff, Nat.reduceAdd, Nat.reduceLeDiff, hdD]
  refine ACallL.fresh1 h70 rfl ?_
  simp only [go_sem, Nat.reduceEqDiff]
  have hfi2 := hfi M2 (clk := clk2)
  rw [List.range_succ] at hfi2
  refine lend1 (m := 0) hfi2 rfl rfl rfl ?_
  rintro o a ⟨rfl, ks3, xs3, clk3, M3, rfl⟩
  cases r
  all_goals
    simp only [firstO, go_sem, Nat.reduceEqDiff, Out.ren, E.ren, E.rens, AO.ren]
    refine ACallL.quiet1 (h55 (.map shQ ks3 xs3 clk3) (hne rfl)) rfl rfl rfl ?_
    simp only [go_sem, Nat.reduceEqDiff, Nat.reduceAdd, Nat.reduceLeDiff, undef, undef, tSp, spanS]
    exact finL_ret [0] ⟨rfl, rfl, rfl, rfl, _, rfl, _, ⟨rfl, ks3, xs3, clk3, M3, rfl⟩, rfl⟩
open Go Go.Ab
def specRows (b : Bo) (boat m : Int) : Sp × Int := if b.ok then (if b.isBoat boat && b.isMinute m then (if canQ b (plainQ b boat.toNat) then (spanS b (canAt b (plainQ b boat.toNat) m.toNat), 0) else ((0, 0), 10)) else ((0, 0), 2)) else ((0, 0), 1)
def specNearest (b : Bo) (boat : Int) : Sp × Int := if b.ok then (if b.isBoat boat then (if canQ b (plainQ b boat.toNat) then (nearS b boat.toNat, 0) else ((0, 0), 10)) else ((0, 0), 2)) else ((0, 0), 1)
set_option maxRecDepth 8000 in
set_option maxHeartbeats 4000000 in
theorem Rows_ok (b : Bo) (hl : Lens b) (boat m : Int) : ACall Tryz.prog 12 [.t (.agg (bo5 b)), .t (vi boat), .t (vi m)] [] (res (spanE (specRows b boat m).1 (specRows b boat m).2)) := by
  refine ACall.walkD k12 ?_
  have h50 := isBoat_ok b hl boat
  have h51 := isMinute_ok b m
  have hop := fun is (σ : List AO) (R : Lz (Out → List AO → Prop)) h1 h2 h3 => openL (σ := σ) (R := R) b is hl h1 h2 h3
  unfold c12
  unfold bo5 at h50 h51 hop ⊢
  simp only [go_sem, Nat.reduceEqDiff, Nat.reduceAdd]
  refine ACallL.quiet1 h50 rfl rfl rfl ?_
  cases hB : b.isBoat boat
  · simp only [go_sem, Nat.reduceEqDiff, Nat.reduceAdd, undef, undef]
    refine hop _ _ _ (fun hok => ?_) (fun hok _ => ?_) (fun hok h => by cases h)
    · simp only [go_sem, Nat.reduceEqDiff]
      refine finDL_pan rfl rfl ((answer_pan rfl).mono fun σ' h => ?_)
      subst h
      exact ⟨_, rfl, [], rfl, rfl, res_mk (by simp only [specRows, hok]; rfl)⟩
    · simp only [go_sem, Nat.reduceEqDiff]
      refine finDL_pan rfl rfl ((answer_pan rfl).mono fun σ' h => ?_)
      subst h
      exact ⟨_, rfl, [], rfl, rfl, res_mk (by simp only [specRows, hok, hB]; rfl)⟩
  simp only [go_sem, Nat.reduceEqDiff, Nat.reduceAdd, beq_self_eq_true]
  refine ACallL.quiet1 h51 rfl rfl rfl ?_
  simp only [go_sem, Nat.reduceEqDiff, Nat.reduceAdd]
  refine hop _ _ _ (fun hok => ?_) (fun hok hM => ?_) (fun hok hM => ?_)
  · simp only [go_sem, Nat.reduceEqDiff]
    refine finDL_pan rfl rfl ((answer_pan rfl).mono fun σ' h => ?_)
    subst h
    exact ⟨_, rfl, [], rfl, rfl, res_mk (by simp only [specRows, hok]; rfl)⟩
  · simp only [go_sem, Nat.reduceEqDiff]
    refine finDL_pan rfl rfl ((answer_pan rfl).mono fun σ' h => ?_)
    subst h
    exact ⟨_, rfl, [], rfl, rfl, res_mk (by simp only [specRows, hok, hB, hM]; rfl)⟩
  have hb := (b.ok_iff).1 hok
  obtain ⟨b1, b2⟩ := isBoat_iff.1 hB
  obtain ⟨m1, m2⟩ := isMinute_iff.1 hM
  have hL := hb.L
  have hs : specRows b boat m = if canQ b (plainQ b boat.toNat) then (spanS b (canAt b (plainQ b boat.toNat) m.toNat), 0) else ((0, 0), 10) := by
    unfold specRows
    rw [hok, hB, hM]; rfl
  obtain ⟨B, rfl⟩ : ∃ n : Nat, boat = n := ⟨boat.toNat, by omega⟩
  obtain ⟨M, rfl⟩ : ∃ n : Nat, m = n := ⟨m.toNat, by omega⟩
  rw [Int.toNat_natCast, Int.toNat_natCast] at hs
  have h52 := told_ok b hb B (by omega) (MapOK.nil b) (clk := 0)
  unfold toldO at h52
  have hat := log_at hb (plainQ b B) (m := M) (by omega)
  have hz := canAt_lt hb (plainQ b B) M
  have hne : canQ b (plainQ b B) = true → canAt b (plainQ b B) M ≠ 0 := fun h => (canAt_ne0 hb _ (by omega)).2 ((canQ_iff hb _).1 h)
  have hlen := logQ_len hb (plainQ b B)
  rw [hs]
  unfold canAt at hz hne ⊢
  generalize canQ b (plainQ b B) = c at *
  generalize logQ b (plainQ b B) = LQ at *
  generalize LQ.getD M 0 = z at *
  have hM13 : (M : Int) < 13 := by omega
  simp only [go_sem, Nat.reduceEqDiff, Nat.reduceAdd, undef, beq_self_eq_true, undef]
  refine lend1 (m := 3) h52 rfl rfl rfl ?_
  rintro o a ⟨rfl, ks2, xs2, clk2, M2, rfl⟩
  cases c
  · simp only [go_sem, Nat.reduceEqDiff, Out.ren, AO.ren]
    refine finDL_pan rfl rfl ((answer_pan rfl).mono fun σ' h => ?_)
    subst h
    exact ⟨_, rfl, [], rfl, rfl, res_mk rfl⟩
  · have h55 := span_ok b hb (.map shQ ks2 xs2 clk2) z hz (hne rfl)
    simp only [tSp, spanS] at h55
    simp only [go_sem, Nat.reduceEqDiff, Nat.reduceLeDiff, Out.ren, E.ren, AO.ren, List.length_map, hlen, List.getElem?_map, hat, Option.map_some, hM13, Nat.mul_one]
    refine ACallL.quiet1 h55 rfl rfl rfl ?_
    simp only [go_sem, Nat.reduceEqDiff, Nat.reduceAdd, undef, undef]
    refine finDL_ret rfl rfl (answer_none.mono fun σ' h => ?_)
    subst h
    exact ⟨_, rfl, [], rfl, rfl, res_mk rfl⟩
set_option maxRecDepth 8000 in
set_option maxHeartbeats 4000000 in
theorem Nearest_ok (b : Bo) (hl : Lens b) (boat : Int) : ACall Tryz.prog 22 [.t (.agg (bo5 b)), .t (vi boat)] [] (res (spanE (specNearest b boat).1 (specNearest b boat).2)) := by
  refine ACall.walkD k22 ?_
  have h50 := isBoat_ok b hl boat
  have hop := fun is (σ : List AO) (R : Lz (Out → List AO → Prop)) h1 h2 h3 => openL (σ := σ) (R := R) b is hl h1 h2 h3
  unfold c22
  unfold bo5 at h50 hop ⊢
  simp only [go_sem, Nat.reduceEqDiff, Nat.reduceAdd]
  refine ACallL.quiet1 h50 rfl rfl rfl ?_
  simp only [go_sem, Nat.reduceEqDiff, Nat.reduceAdd]
  refine hop _ _ _ (fun hok => ?_) (fun hok hB => ?_) (fun hok hB => ?_)
  · simp only [go_sem, Nat.reduceEqDiff]
    refine finDL_pan rfl rfl ((answer_pan rfl).mono fun σ' h => ?_)
    subst h
    exact ⟨_, rfl, [], rfl, rfl, res_mk (by simp only [specNearest, hok]; rfl)⟩
  · simp only [go_sem, Nat.reduceEqDiff]
    refine finDL_pan rfl rfl ((answer_pan rfl).mono fun σ' h => ?_)
    subst h
    exact ⟨_, rfl, [], rfl, rfl, res_mk (by simp only [specNearest, hok, hB]; rfl)⟩
  have hb := (b.ok_iff).1 hok
  obtain ⟨b1, b2⟩ := isBoat_iff.1 hB
  have hs : specNearest b boat = if canQ b (plainQ b boat.toNat) then (nearS b boat.toNat, 0) else ((0, 0), 10) := by
    unfold specNearest
    rw [hok, hB]; rfl
  obtain ⟨B, rfl⟩ : ∃ n : Nat, boat = n := ⟨boat.toNat, by omega⟩
  rw [Int.toNat_natCast] at hs
  have h56 := nearest_ok b hb B (by omega) (MapOK.nil b) (clk := 0)
  unfold nearO at h56
  rw [hs]
  generalize canQ b (plainQ b B) = c at *
  generalize nearS b B = z at *
  obtain ⟨z1, z2⟩ := z
  simp only [tSp] at h56
  simp only [go_sem, Nat.reduceEqDiff, Nat.reduceAdd]
  refine lend1 (m := 3) h56 rfl rfl rfl ?_
  rintro o a ⟨rfl, ks2, xs2, clk2, M2, rfl⟩
  cases c
  · simp only [go_sem, Nat.reduceEqDiff, Out.ren, AO.ren]
    refine finDL_pan rfl rfl ((answer_pan rfl).mono fun σ' h => ?_)
    subst h
    exact ⟨_, rfl, [], rfl, rfl, res_mk rfl⟩
  · simp only [go_sem, Nat.reduceEqDiff, Nat.reduceAdd, undef, undef, Out.ren, E.ren, AO.ren]
    refine finDL_ret rfl rfl (answer_none.mono fun σ' h => ?_)
    subst h
    exact ⟨_, rfl, [], rfl, rfl, res_mk rfl⟩
open Go Go.Ab
def smp (l : List Si) : Bo := { wide := 6, deep := 4, speed := 1, last := 6, seen := [[⟨0, 0, 0, 3, 3⟩, ⟨4, 2, 2, 2, 3⟩] ++ l, [⟨2, 3, 4, 1, 1⟩, ⟨5, 5, 5, 0, 3⟩]] }
theorem rin_ok (n lo hi : Int) : ACall Tryz.prog 20 [.t (vi n), .t (vi lo), .t (vi hi)] [] (ret (vb (wI n lo hi))) := by
  refine ACall.walk k20 ?_
  unfold c20
  rw [wI_eq]
  simp only [go_sem, Nat.reduceEqDiff, Nat.reduceAdd]
  cases hA : decide (lo ≤ n)
  · simp only [go_sem, Nat.reduceEqDiff, undef]
    exact finL_ret [] ⟨rfl, rfl, rfl, rfl, _, rfl, res_mk rfl⟩
  · simp only [go_sem, Nat.reduceEqDiff]
    exact finL_ret [] ⟨rfl, rfl, rfl, rfl, _, rfl, res_mk rfl⟩
theorem rspan_ok (x : Sp) (high : Int) : ACall Tryz.prog 21 [.t (tSp x), .t (vi high)] [] (ret (vb (spB x.1 x.2 high))) := by
  refine ACall.walk k21 ?_
  unfold c21 tSp spB
  obtain ⟨lo, hi⟩ := x
  simp only [go_sem, Nat.reduceEqDiff, Nat.reduceAdd, Nat.reduceLeDiff]
  cases h1 : decide (0 ≤ lo)
  · simp only [go_sem, Nat.reduceEqDiff, undef, undef]
    exact finL_ret [] ⟨rfl, rfl, rfl, rfl, _, rfl, res_mk rfl⟩
  simp only [go_sem, Nat.reduceEqDiff, Nat.reduceAdd, Nat.reduceLeDiff, beq_self_eq_true]
  cases h2 : decide (lo ≤ hi)
  · simp only [go_sem, Nat.reduceEqDiff, undef, undef]
    exact finL_ret [] ⟨rfl, rfl, rfl, rfl, _, rfl, res_mk rfl⟩
  simp only [go_sem, Nat.reduceEqDiff, Nat.reduceAdd, beq_self_eq_true]
  exact finL_ret [] ⟨rfl, rfl, rfl, rfl, _, rfl, res_mk rfl⟩
theorem not_ok {b : Bo} (h : ¬ b.OK) : b.ok = false := by rw [← Bool.not_eq_true, b.ok_iff]; exact h
def RsMid (b : Bo) (st : St) : Prop := lk st.env 1 = .ptr 0 0 ∧ st.σ = [.cells ((bo5 b).map .t)] ∧ st.df = [] ∧ st.k = 0
set_option maxRecDepth 8000 in
set_option maxHeartbeats 8000000 in
theorem rboats_ok (b : Bo) (hl : Lens b) : ACall Tryz.prog 6 [.t (.agg (bo5 b))] [] (ret (vb b.ok)) := by
  refine ACall.walk k6 ?_
  unfold c6
  have hln := hl.1
  refine awpL_chop 2 (c1 := ?a1) (c2 := ?a2) (fun st => b.headB = true ∧ RsMid b st) ?hc ?_ ?_
  case hc => simp only [chop]; rfl
  · unfold bo5
    have bad : b.headB = false → b.ok = false := fun h => by unfold Bo.ok; rw [h]; rfl
    unfold Bo.headB at bad ⊢
    simp only [go_sem, Nat.reduceEqDiff, Nat.reduceAdd, Nat.reduceLeDiff]
    refine ACallL.quiet1 (rin_ok _ _ _) rfl rfl rfl ?_
    cases h1 : wI b.wide 1 8
    · simp only [go_sem, Nat.reduceEqDiff, Bool.not_true, Bool.not_false, undef, undef]
      exact finL_ret [] ⟨rfl, rfl, rfl, rfl, _, rfl, res_mk (by rw [bad (by rw [h1]; rfl)]; rfl)⟩
    simp only [go_sem, Nat.reduceEqDiff, Nat.reduceAdd, Nat.reduceLeDiff, Bool.not_true, beq_self_eq_true]
    refine ACallL.quiet1 (rin_ok _ _ _) rfl rfl rfl ?_
    cases h2 : wI b.deep 1 6
    · simp only [go_sem, Nat.reduceEqDiff, Bool.not_true, Bool.not_false, undef, beq_self_eq_true, undef]
      exact finL_ret [] ⟨rfl, rfl, rfl, rfl, _, rfl, res_mk (by rw [bad (by rw [h1, h2]; rfl)]; rfl)⟩
    simp only [go_sem, Nat.reduceEqDiff, Nat.reduceAdd, Nat.reduceLeDiff, Bool.not_true, beq_self_eq_true]
    refine ACallL.quiet1 (rin_ok _ _ _) rfl rfl rfl ?_
    cases h3 : wI b.speed 0 3
    · simp only [go_sem, Nat.reduceEqDiff, Bool.not_true, Bool.not_false, undef, beq_self_eq_true, undef]
      exact finL_ret [] ⟨rfl, rfl, rfl, rfl, _, rfl, res_mk (by rw [bad (by rw [h1, h2, h3]; rfl)]; rfl)⟩
    simp only [go_sem, Nat.reduceEqDiff, Nat.reduceAdd, Nat.reduceLeDiff, Bool.not_true, beq_self_eq_true]
    refine ACallL.quiet1 (rin_ok _ _ _) rfl rfl rfl ?_
    cases h4 : wI b.last 0 12
    · simp only [go_sem, Nat.reduceEqDiff, Bool.not_true, Bool.not_false, undef, beq_self_eq_true, undef]
      exact finL_ret [] ⟨rfl, rfl, rfl, rfl, _, rfl, res_mk (by rw [bad (by rw [h1, h2, h3, h4]; rfl)]; rfl)⟩
    simp only [go_sem, Nat.reduceEqDiff, Nat.reduceAdd, Bool.not_true, beq_self_eq_true, List.length_map]
    cases h5 : decide ((b.seen.length : Int) > 4)
    rotate_left
    · have h5' : decide (b.seen.length ≤ 4) = false := by have := of_decide_eq_true h5; exact decide_eq_false (by omega)
      simp only [go_sem]
      exact finL_ret [] ⟨rfl, rfl, rfl, rfl, _, rfl, res_mk (by rw [bad (by rw [h1, h2, h3, h4, h5']; rfl)]; rfl)⟩
    have h5' : decide (b.seen.length ≤ 4) = true := by have := of_decide_eq_false h5; exact decide_eq_true (by omega)
    simp only [go_sem, Bool.and_true, Bool.true_and]
    exact ⟨of_decide_eq_true h5', rfl, rfl, rfl, rfl⟩
  rintro ⟨env, σ, df, k⟩ ⟨vh, q1, hσ, hdf, hk⟩
  simp only at q1 hσ hdf hk
  subst hσ hdf hk
  have vh' := vh
  unfold Bo.headB at vh'
  simp only [Bool.and_eq_true, decide_eq_true_eq, wI_iff] at vh'
  obtain ⟨⟨⟨⟨⟨w1, w2⟩, ⟨d1, d2⟩⟩, _⟩, ⟨l1, l2⟩⟩, n4⟩ := vh'
  unfold bo5
  simp only [go_sem]
  refine awpL_loopK b.seen.length (fun j st => (b.seen.take j).all (fun l => decide (l.length ≤ 5) && sawB b 0 l) = true ∧ st = { env := [(3, .t (vi j)), (1, .ptr 0 0)], σ := [.cells ((bo5 b).map .t)] }) ⟨_, Sub.gc [0] [3, 1] rfl rfl, rfl, ?_⟩ ?_
  · exact St.gc_mk (by simp only [List.map_cons, List.map_nil, lk, Nat.reduceEqDiff, reduceIte, q1]; rfl) rfl rfl rfl
  · rintro j st hjn ⟨hK, rfl⟩
    simp only [bo5, go_sem, Nat.reduceEqDiff, Nat.reduceAdd, List.length_map]
    cases g : decide ((j : Int) < b.seen.length)
    · have hje : j = b.seen.length := by have := of_decide_eq_false g; omega
      subst hje
      rw [List.take_length] at hK
      have hok : b.ok = true := by unfold Bo.ok; rw [vh, hK]; rfl
      simp only [go_sem]
      exact finL_ret [] ⟨rfl, rfl, rfl, rfl, _, rfl, res_mk (by rw [hok]; rfl)⟩
    have hj : j < b.seen.length := by have := of_decide_eq_true g; omega
    have hx : b.seen[j]? = some b.seen[j] := List.getElem?_eq_getElem hj
    have tx : b.seen.take (j + 1) = b.seen.take j ++ [b.seen[j]] := by rw [List.take_add_one, hx]; rfl
    have mx := List.getElem_mem hj
    have hw : IntKind.i64.wrap ((j : Int) + 1) = ((j + 1 : Nat) : Int) := by rw [wrap_id (by omega) (by omega)]; omega
    generalize b.seen[j] = l at *
    have hll := hl.2 l mx
    have bad : (decide (l.length ≤ 5) && sawB b 0 l) = false → b.ok = false := fun h => not_ok fun k => by
      rw [decide_eq_true (k.lens l mx), k.saw l mx] at h; cases h
    simp only [go_sem, Nat.reduceEqDiff, Nat.reduceAdd, List.length_map, List.getElem?_map, hx, Option.map_some, tSis]
    cases h5 : decide ((l.length : Int) > 5)
    rotate_left
    · have h5' : decide (l.length ≤ 5) = false := by have := of_decide_eq_true h5; exact decide_eq_false (by omega)
      simp only [go_sem]
      exact finL_ret [] ⟨rfl, rfl, rfl, rfl, _, rfl, res_mk (by rw [bad (by rw [h5']; rfl)]; rfl)⟩
    have h5' : decide (l.length ≤ 5) = true := by have := of_decide_eq_false h5; exact decide_eq_true (by omega)
    rw [h5', Bool.true_and] at bad
    have hl5 := of_decide_eq_true h5'
    simp only [go_sem]
    refine awpL_loopK l.length (fun i st => ∃ m : Int, (0 ≤ m ∧ m ≤ 12) ∧ sawB b 0 l = sawB b m (l.drop i) ∧ st = { env := [(5, .t (vi i)), (4, .t (vi m)), (3, .t (vi j)), (1, .ptr 0 0)], σ := [.cells ((bo5 b).map .t)] }) ⟨_, Sub.gc [0] [5, 4, 3, 1] rfl rfl, 0, by omega, rfl, rfl⟩ ?_
    rintro i st hin ⟨m, hm, hS, rfl⟩
    simp only [bo5, go_sem, Nat.reduceEqDiff, Nat.reduceAdd, List.length_map, List.getElem?_map, hx, Option.map_some, tSis]
    cases g2 : decide ((i : Int) < l.length)
    · have hie : i = l.length := by have := of_decide_eq_false g2; omega
      subst hie
      rw [List.drop_length] at hS
      simp only [bo5, go_sem, Nat.reduceEqDiff, hw]
      refine ⟨hj, _, Sub.gc [0] [3, 1] rfl rfl, ?_, rfl⟩
      rw [tx, List.all_append, hK, Bool.true_and, List.all_cons, h5', hS]
      rfl
    have hi : i < l.length := by have := of_decide_eq_true g2; omega
    have hwi : IntKind.i64.wrap ((i : Int) + 1) = ((i + 1 : Nat) : Int) := by rw [wrap_id (by omega) (by omega)]; omega
    have hs : l[i]? = some l[i] := List.getElem?_eq_getElem hi
    have hd : l.drop i = l[i] :: l.drop (i + 1) := List.drop_eq_getElem_cons hi
    generalize l[i] = s at *
    rw [hd] at hS
    have hS2 : sawB b 0 l = (s.okB b m && sawB b s.minute (l.drop (i + 1))) := hS
    have bad2 : s.okB b m = false → b.ok = false := fun h => bad (by rw [hS2, h]; rfl)
    have wc : IntKind.i64.wrap (b.wide - 1) = b.wide - 1 := wrap_id (by omega) (by omega)
    have wr : IntKind.i64.wrap (b.deep - 1) = b.deep - 1 := wrap_id (by omega) (by omega)
    have hsp1 := rspan_ok (s.c1, s.c2) (b.wide - 1)
    have hsp2 := rspan_ok (s.r1, s.r2) (b.deep - 1)
    unfold Si.okB at bad2 hS2
    obtain ⟨sm, c1, c2, r1, r2⟩ := s
    simp only [tSp] at hsp1 hsp2 bad2 hS2
    simp only [go_sem, Nat.reduceEqDiff, Nat.reduceAdd, Nat.reduceLeDiff, undef, undef, List.getElem?_map, hx, hs, Option.map_some, tSis, tSi]
    refine ACallL.quiet1 (rin_ok _ _ _) rfl rfl rfl ?_
    cases h1 : wI sm m b.last
    · simp only [go_sem, Nat.reduceEqDiff, Bool.not_true, Bool.not_false, undef, undef]
      exact finL_ret [] ⟨rfl, rfl, rfl, rfl, _, rfl, res_mk (by rw [bad2 (by rw [h1]; rfl)]; rfl)⟩
    simp only [go_sem, Nat.reduceEqDiff, Nat.reduceAdd, Nat.reduceLeDiff, Bool.not_true, beq_self_eq_true, wc]
    refine ACallL.quiet1 hsp1 rfl rfl rfl ?_
    cases h2 : spB c1 c2 (b.wide - 1)
    · simp only [go_sem, Nat.reduceEqDiff, Bool.not_true, Bool.not_false, undef, beq_self_eq_true, undef]
      exact finL_ret [] ⟨rfl, rfl, rfl, rfl, _, rfl, res_mk (by rw [bad2 (by rw [h1, h2]; rfl)]; rfl)⟩
    simp only [go_sem, Nat.reduceEqDiff, Nat.reduceAdd, Nat.reduceLeDiff, Bool.not_true, beq_self_eq_true, wr]
    refine ACallL.quiet1 hsp2 rfl rfl rfl ?_
    cases h3 : spB r1 r2 (b.deep - 1)
    · simp only [go_sem, Nat.reduceEqDiff, Bool.not_false, beq_self_eq_true]
      exact finL_ret [] ⟨rfl, rfl, rfl, rfl, _, rfl, res_mk (by rw [bad2 (by rw [h1, h2, h3]; rfl)]; rfl)⟩
    simp only [go_sem, Nat.reduceEqDiff, Nat.reduceAdd, Nat.reduceLeDiff, Bool.not_true, beq_self_eq_true, hwi]
    rw [h1, h2, h3] at hS2
    exact ⟨hi, _, Sub.gc [0] [5, 4, 3, 1] rfl rfl, sm, by have := wI_iff.1 h1; omega, hS2, rfl⟩
end Go.Proofs.YtbhbbjngndmnmaaGreatDoor.B
