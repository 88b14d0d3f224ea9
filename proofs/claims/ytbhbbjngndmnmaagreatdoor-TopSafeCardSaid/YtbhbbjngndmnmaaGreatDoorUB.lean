/- Proved here: laws that the statements need (TsA, TsB, TsC, TsCt, TsD, TsE, TsF, TsG, TsH, TsI, TsJ, TsK, TsL, TsM, TsN, TsP, TvA). No conditions but those that each law states. -/
import Derived.Test.YtbhbbjngndmnmaaGreatDoorUA
set_option linter.unusedSimpArgs false
set_option linter.unusedVariables false
namespace Go.Proofs.YtbhbbjngndmnmaaGreatDoor.S
open Go Go.Ab
structure Hu where
  floor : Int
  brake : Int
  row : Int
abbrev Sp := Int × Int
structure Su where
  rows : Int
  step : Int
  water : List Sp
  waves : List Sp
  huts : List Hu
def tSp (x : Sp) : T := .agg [vi x.1, vi x.2]
def tHu (h : Hu) : T := .agg [vi h.floor, vi h.brake, vi h.row]
def su5 (s : Su) : List T := [vi s.rows, vi s.step, .slice 2 (s.water.map tSp), .slice 2 (s.waves.map tSp), .slice 3 (s.huts.map tHu)]
def wI (n lo hi : Int) : Bool := decide (lo ≤ n ∧ n ≤ hi)
theorem wI_eq (n lo hi : Int) : wI n lo hi = (decide (lo ≤ n) && decide (n ≤ hi)) := by unfold wI; rw [Bool.eq_iff_iff]; simp
def nearB (x : Sp) (high : Int) : Bool := decide (0 ≤ x.1) && decide (x.1 ≤ x.2) && decide (x.2 ≤ high) && decide (x.2 - x.1 ≤ 3)
def Hu.ok (rows : Int) (h : Hu) : Bool := wI h.floor 0 40 && wI h.brake 0 10 && wI h.row 0 (rows - 1)
def Su.ok (s : Su) : Bool := wI s.rows 1 6 && wI s.step 0 4 && decide (s.water.length ≤ 8) && decide (s.waves.length = s.water.length) && decide (s.huts.length ≤ 5) &&
  (s.water.all (nearB · 30) && s.waves.all (nearB · 10)) && s.huts.all (Hu.ok s.rows)
abbrev Near (x : Sp) (high : Int) : Prop := 0 ≤ x.1 ∧ x.1 ≤ x.2 ∧ x.2 ≤ high ∧ x.2 - x.1 ≤ 3
abbrev Hu.OK (rows : Int) (h : Hu) : Prop := 0 ≤ h.floor ∧ h.floor ≤ 40 ∧ 0 ≤ h.brake ∧ h.brake ≤ 10 ∧ 0 ≤ h.row ∧ h.row < rows
structure Su.OK (s : Su) : Prop where
  rows : 1 ≤ s.rows ∧ s.rows ≤ 6
  step : 0 ≤ s.step ∧ s.step ≤ 4
  nw : s.water.length ≤ 8
  nv : s.waves.length = s.water.length
  nh : s.huts.length ≤ 5
  water : ∀ x ∈ s.water, Near x 30
  waves : ∀ x ∈ s.waves, Near x 10
  huts : ∀ h ∈ s.huts, h.OK s.rows
theorem nearB_iff (x : Sp) (high : Int) : nearB x high = true ↔ Near x high := by simp [nearB, Near]; omega
theorem Hu.ok_iff (rows : Int) (h : Hu) : h.ok rows = true ↔ h.OK rows := by simp [Hu.ok, Hu.OK, wI]; omega
theorem Su.ok_iff (s : Su) : s.ok = true ↔ s.OK := by
  unfold Su.ok
  simp only [Bool.and_eq_true, decide_eq_true_eq, List.all_eq_true, Hu.ok_iff, nearB_iff, wI]
  constructor
  · rintro ⟨⟨⟨⟨⟨⟨h1, h2⟩, h3⟩, h4⟩, h5⟩, h6, h7⟩, h8⟩
    exact ⟨h1, h2, h3, h4, h5, h6, h7, h8⟩
  · rintro ⟨h1, h2, h3, h4, h5, h6, h7, h8⟩
    exact ⟨⟨⟨⟨⟨⟨h1, h2⟩, h3⟩, h4⟩, h5⟩, h6, h7⟩, h8⟩
theorem within_ok (n lo hi : Int) : ACall Tryz.prog 64 [.t (vi n), .t (vi lo), .t (vi hi)] [] (ret (vb (wI n lo hi))) := by
  refine ACall.walk k64 ?_
  unfold c64
  rw [wI_eq]
  simp only [go_sem, Nat.reduceEqDiff, Nat.reduceAdd]
  cases hA : decide (lo ≤ n)
  · simp only [go_sem, Nat.reduceEqDiff, undef]
    exact finL_ret [] ⟨rfl, rfl, rfl, rfl, _, rfl, res_mk rfl⟩
  · simp only [go_sem, Nat.reduceEqDiff]
    exact finL_ret [] ⟨rfl, rfl, rfl, rfl, _, rfl, res_mk rfl⟩
def rfs (e : Int) : T := .iface 138 (vi e)
abbrev askO (is : Bool) (e : Int) : Out := if is then .ret (.tup []) else .pan (rfs e)
theorem ask_ok (is : Bool) (e : Int) : ACall Tryz.prog 63 [.t (vb is), .t (vi e)] [] (res (askO is e)) := by
  refine ACall.walk k63 ?_
  unfold c63
  cases is
  all_goals simp only [go_sem, Nat.reduceEqDiff, Bool.not_true, Bool.not_false]
  · exact finL_pan [] ⟨rfl, rfl, rfl, rfl, res_mk rfl⟩
  · exact finL_ret [] ⟨rfl, rfl, rfl, rfl, _, rfl, res_mk (by simp [E.gc])⟩
theorem answer_pan {σ : List AO} {id : Nat} {x : E} {e : Int} (h : σ[id]? = some (.cells [x])) : ADef Tryz.prog 38 [.ptr id 0] σ (some (rfs e)) fun σ' => σ' = σ.set id (.cells [.t (vi e)]) := by
  refine ADef.walk a38 ?_
  unfold c38
  simp only [pxT, rfs, go_sem, Nat.reduceEqDiff, Bool.not_true, h]
theorem answer_none {σ : List AO} {a : E} : ADef Tryz.prog 38 [a] σ none fun σ' => σ' = σ := by
  refine ADef.walk a38 ?_
  unfold c38
  simp only [pxT, go_sem, Nat.reduceEqDiff, Bool.not_true]
def deepI (step w row : Int) : Int := max 0 (w - step * row)
theorem depth_ok (a b c d e : T) (step w row : Int) (h1 : -9223372036854775808 ≤ step * row ∧ step * row < 9223372036854775808) (h2 : -9223372036854775808 ≤ w - step * row ∧ w - step * row < 9223372036854775808) : ACall Tryz.prog 114 [.t (.ptr (.agg [a, vi step, b, c, d, e]) 0), .t (vi w), .t (vi row)] [] (ret (vi (deepI step w row))) := by
  refine ACall.walk k114 ?_
  unfold c114
  have w1 : IntKind.i64.wrap (step * row) = step * row := wrap_id h1.1 h1.2
  have w2 : IntKind.i64.wrap (w - step * row) = w - step * row := wrap_id h2.1 h2.2
  simp only [go_sem, Nat.reduceEqDiff, Nat.reduceAdd, w1, w2]
  exact finL_ret [] ⟨rfl, rfl, rfl, rfl, _, rfl, res_mk rfl⟩
abbrev Lens (s : Su) : Prop := s.water.length < 9223372036854775808 ∧ s.waves.length < 9223372036854775808 ∧ s.huts.length < 9223372036854775808
def Su.isHut (s : Su) (n : Int) : Bool := wI n 0 (s.huts.length - 1)
theorem isHut_iff {s : Su} {n : Int} : s.isHut n = true ↔ 0 ≤ n ∧ n < s.huts.length := by unfold Su.isHut wI; simp; omega
theorem isHut_ok (s : Su) (hl : Lens s) (n : Int) : ACall Tryz.prog 40 [.t (.agg (su5 s)), .t (vi n)] [] (ret (vb (s.isHut n))) := by
  refine ACall.walk k40 ?_
  unfold c40 su5
  have w1 : IntKind.i64.wrap ((s.huts.length : Int) - 1) = s.huts.length - 1 := wrap_id (by omega) (by omega)
  simp only [go_sem, Nat.reduceEqDiff, Nat.reduceAdd, List.length_map, w1]
  refine ACallL.quiet1 (within_ok _ _ _) rfl rfl rfl ?_
  simp only [go_sem, Nat.reduceEqDiff]
  exact finL_ret [] ⟨rfl, rfl, rfl, rfl, _, rfl, res_mk rfl⟩
abbrev vu (n : Int) : T := .lit (.int .u64 n)
theorem u64_nat {a : Nat} (h : a < 18446744073709551616) : IntKind.u64.wrap (a : Int) = a := by
  simp only [IntKind.wrap, IntKind.signed, IntKind.bits]
  exact Int.emod_eq_of_lt (by omega) (by omega)
theorem ubits_and {a b : Nat} (ha : a < 18446744073709551616) (hb : b < 18446744073709551616) : bits .and .u64 a b = ((a &&& b : Nat) : Int) := by
  have h1 : (BitVec.ofInt IntKind.u64.bits (a : Int) &&& BitVec.ofInt IntKind.u64.bits (b : Int)).toNat = a &&& b := by
    rw [BitVec.toNat_and, BitVec.ofInt_natCast, BitVec.ofInt_natCast, BitVec.toNat_ofNat, BitVec.toNat_ofNat]
    simp only [IntKind.bits]
    rw [Nat.mod_eq_of_lt (by omega), Nat.mod_eq_of_lt (by omega)]
  unfold bits
  simp only [h1]
  exact u64_nat (Nat.lt_of_le_of_lt Nat.and_le_left ha)
theorem ubits_or {a b : Nat} (ha : a < 18446744073709551616) (hb : b < 18446744073709551616) : bits .or .u64 a b = ((a ||| b : Nat) : Int) := by
  have h1 : (BitVec.ofInt IntKind.u64.bits (a : Int) ||| BitVec.ofInt IntKind.u64.bits (b : Int)).toNat = a ||| b := by
    rw [BitVec.toNat_or, BitVec.ofInt_natCast, BitVec.ofInt_natCast, BitVec.toNat_ofNat, BitVec.toNat_ofNat]
    simp only [IntKind.bits]
    rw [Nat.mod_eq_of_lt (by omega), Nat.mod_eq_of_lt (by omega)]
  unfold bits
  simp only [h1]
  exact u64_nat (Nat.or_lt_two_pow (n := 64) (by omega) (by omega))
theorem dec7 {p : Nat → Prop} [DecidablePred p] {n : Nat} (h : ((List.range n).all fun n => decide (p n)) = true) (k : Nat) (hk : k < n) : p k := by
  have := List.all_eq_true.mp h k (List.mem_range.mpr hk)
  simpa using this
theorem at_ok (r : Nat) (hr : r < 6) : ACall Tryz.prog 94 [.t (vi r)] [] (ret (vu (2 ^ (r + 1) : Nat))) := by
  refine ACall.walk k94 ?_
  unfold c94
  have h0 : ((r : Int) < 0) = False := by simp
  have hs : IntKind.u64.wrap (2 * 2 ^ (min r 64)) = ((2 ^ (r + 1) : Nat) : Int) := dec7 (p := fun r => IntKind.u64.wrap (2 * 2 ^ (min r 64)) = ((2 ^ (r + 1) : Nat) : Int)) (n := 6) (by decide +kernel) r hr
  simp only [go_sem, Nat.reduceEqDiff, h0, hs]
  exact finL_ret [] ⟨rfl, rfl, rfl, rfl, _, rfl, res_mk rfl⟩
theorem ushr1 {p : Nat} (hp : p < 256) : ((p : Int)).fdiv (2 ^ (min 1 64)) = ((p / 2 : Nat) : Int) := by
  rw [shr_nat (by omega), Nat.shiftRight_eq_div_pow]
theorem out_ok (p : Nat) (hp : p < 256) : ACall Tryz.prog 141 [.t (vu p)] [] (ret (vu (p / 2 : Nat))) := by
  refine ACall.walk k141 ?_
  unfold c141
  simp only [go_sem, Nat.reduceEqDiff, Int.reduceToNat, Int.reduceLT, ushr1 hp]
  exact finL_ret [] ⟨rfl, rfl, rfl, rfl, _, rfl, res_mk rfl⟩
theorem lost_bit {p : Nat} (hp : p < 18446744073709551616) : (bits .and .u64 (p : Int) 1 == 1) = p.testBit 0 := by
  rw [show (1 : Int) = ((1 : Nat) : Int) from rfl, ubits_and hp (by omega), Nat.and_one_is_mod, Nat.testBit_zero]
  have := Nat.mod_two_eq_zero_or_one p
  rcases this with h | h <;> rw [h] <;> rfl
theorem lost_ok (p : Nat) (hp : p < 256) : ACall Tryz.prog 113 [.t (vu p)] [] (ret (vb (p.testBit 0))) := by
  refine ACall.walk k113 ?_
  unfold c113
  simp only [go_sem, Nat.reduceEqDiff, lost_bit (show p < 18446744073709551616 by omega)]
  exact finL_ret [] ⟨rfl, rfl, rfl, rfl, _, rfl, res_mk rfl⟩
theorem joined_ok (p q : Nat) (hp : p < 256) (hq : q < 256) : ACall Tryz.prog 142 [.t (.slice 1 [vu p, vu q])] [] (ret (vu (p ||| q : Nat))) := by
  refine ACall.walk k142 ?_
  unfold c142
  simp only [go_sem, Nat.reduceEqDiff, Nat.reduceAdd]
  have o1 : bits .or .u64 0 (p : Int) = ((p : Nat) : Int) := by
    have := ubits_or (a := 0) (b := p) (by omega) (by omega)
    rw [Nat.zero_or] at this
    exact this
  have o2 := ubits_or (a := p) (b := q) (by omega) (by omega)
  refine awpL_for (i := 7) (L := 6) 2 (fun j s => s = { env := [(7, .t (vi j)), (6, .t (vi 2)), (5, .t (.slice 1 [vu p, vu q])), (2, .t (vu (if j = 0 then 0 else if j = 1 then (p : Int) else (p ||| q : Nat))))], σ := [] }) ?_ ⟨_, Sub.gc [] [7, 6, 5, 2] rfl rfl, rfl⟩ ?_ ?_
  · rintro k s rfl; exact ⟨rfl, rfl⟩
  · rintro j s hj rfl
    have : j = 0 ∨ j = 1 := by omega
    rcases this with rfl | rfl
    · simp only [go_sem, Nat.reduceEqDiff, Int.reduceLE, Int.reduceAdd, o1]
      exact ⟨_, Sub.gc [] [7, 6, 5, 2] rfl rfl, rfl⟩
    · simp only [go_sem, Nat.reduceEqDiff, Nat.reduceAdd, Int.reduceToNat, Int.reduceLE, Int.reduceAdd, o2]
      exact ⟨_, Sub.gc [] [7, 6, 5, 2] rfl rfl, rfl⟩
  · rintro s rfl
    simp only [go_sem, Nat.reduceEqDiff]
    exact finL_ret [] ⟨rfl, rfl, rfl, rfl, _, rfl, res_mk rfl⟩
theorem near_ok (x : Sp) (high : Int) (hh : high ≤ 100) : ACall Tryz.prog 65 [.t (tSp x), .t (vi high)] [] (ret (vb (nearB x high))) := by
  refine ACall.walk k65 ?_
  unfold c65 tSp nearB
  obtain ⟨lo, hi⟩ := x
  simp only [go_sem, Nat.reduceEqDiff, Nat.reduceAdd, Nat.reduceLeDiff]
  cases h1 : decide (0 ≤ lo)
  · simp only [go_sem, Nat.reduceEqDiff, undef, undef]
    exact finL_ret [] ⟨rfl, rfl, rfl, rfl, _, rfl, res_mk rfl⟩
  simp only [go_sem, Nat.reduceEqDiff, Nat.reduceAdd, Nat.reduceLeDiff, beq_self_eq_true]
  cases h2 : decide (lo ≤ hi)
  · simp only [go_sem, Nat.reduceEqDiff, undef, undef]
    exact finL_ret [] ⟨rfl, rfl, rfl, rfl, _, rfl, res_mk rfl⟩
  have h1' := of_decide_eq_true h1
  have h2' := of_decide_eq_true h2
  simp only [go_sem, Nat.reduceEqDiff, Nat.reduceAdd, beq_self_eq_true]
  cases h3 : decide (hi ≤ high)
  · simp only [go_sem, Nat.reduceEqDiff, undef, undef]
    exact finL_ret [] ⟨rfl, rfl, rfl, rfl, _, rfl, res_mk rfl⟩
  · have h3' := of_decide_eq_true h3
    have hw : IntKind.i64.wrap (hi - lo) = hi - lo := wrap_id (by omega) (by omega)
    simp only [go_sem, Nat.reduceEqDiff, Nat.reduceAdd, Nat.reduceLeDiff, beq_self_eq_true, hw]
    exact finL_ret [] ⟨rfl, rfl, rfl, rfl, _, rfl, res_mk rfl⟩
open Go Go.Ab
def c58g (m : Int) (tb : T) : AC :=
 .seq (.reg [⟨(some 2), none, .mov (.lit (.int .i64 0))⟩])
 (.seq (.seq (.reg [⟨(some 3), none, .mov (.tmp 0)⟩,
 ⟨(some 4), none, .bin .eql (.tmp 3) (.lit (.int .u64 0))⟩])
 (.cond (.tmp 4) (.seq (.reg [⟨(some 2), none, .mov (.lit (.int .i64 64))⟩])
 (.ret))
 (.skip)))
 (.seq (.reg [⟨(some 5), none, .mov (.tmp 0)⟩,
 ⟨(some 6), none, .mov (.tmp 0)⟩,
 ⟨(some 7), none, .un .neg (.tmp 6)⟩,
 ⟨(some 8), none, .bin .and (.tmp 5) (.tmp 7)⟩,
 ⟨(some 9), none, .bin .mul (.tmp 8) (.lit (.int .u64 m))⟩,
 ⟨(some 10), none, .bin .shr (.tmp 9) (.lit (.int .u64 58))⟩,
 ⟨(some 11), none, .iaddrA 64 1 (.tr (.ptr tb 0)) (.tmp 10)⟩,
 ⟨(some 12), none, .load false 1 (.tmp 11)⟩,
 ⟨(some 13), none, .conv .i64 (.tmp 12)⟩,
 ⟨(some 2), none, .mov (.tmp 13)⟩])
 (.ret)))
theorem c58_g : c58 = c58g 285870213051353865 (tabT tab64) := rfl
theorem tz_gen (m : Int) (cs : List T) (x : Int) (k j : Nat) (n2 : (x == 0) = false) (hj : j < 64) (hcs : cs[j]? = some (.lit (.int .u8 k))) (hk : k < 256)
    (d1 : (IntKind.u64.wrap (bits .and .u64 x (IntKind.u64.wrap (0 - x)) * m)).fdiv (2 ^ min 58 64) = (j : Int)) :
    @awpL { P := Tryz.prog, nb := 0, pn := [] } ⟨c58g m (.agg cs)⟩ ⟨fun e s => @finL 0 0 ⟨[.tmp 2]⟩ ⟨ret (vi k)⟩ e s⟩ { env := argEnv 0 [.t (.lit (.int .u64 x))], σ := [], df := [], k := 0 } := by
  unfold c58g
  have hw : IntKind.i64.wrap (k : Int) = k := wrap_id (by omega) (by omega)
  simp only [go_sem, Nat.reduceEqDiff, Int.reduceToNat, Int.reduceLT, n2, d1, Nat.mul_one, hcs, hw]
  refine ⟨by omega, ?_⟩
  exact finL_ret [] ⟨rfl, rfl, rfl, rfl, _, rfl, res_mk rfl⟩
def dB (k : Nat) : Nat := (2 ^ k * 285870213051353865 % 18446744073709551616) / 288230376151711744
theorem dB_ok : ∀ k : Nat, k < 8 → (IntKind.u64.wrap (bits .and .u64 ((2 ^ k : Nat) : Int) (IntKind.u64.wrap (0 - ((2 ^ k : Nat) : Int))) * 285870213051353865)).fdiv (2 ^ min 58 64) = (dB k : Int) := dec7 (by decide +kernel)
theorem tab64_at : ∀ k : Nat, k < 8 → dB k < 64 ∧ tab64[dB k]? = some k := dec7 (by decide +kernel)
theorem tz64_ok (k : Nat) (hk : k < 8) : ACall Tryz.prog 115 [.t (vu (2 ^ k : Nat))] [] (ret (vi k)) := by
  have h93 : ACall Tryz.prog 58 [.t (vu (2 ^ k : Nat))] [] (ret (vi k)) := by
    obtain ⟨h1, h2⟩ := tab64_at k hk
    refine ACall.walk k58 ?_
    rw [c58_g]
    exact tz_gen _ _ _ k (dB k) (by rw [beq_eq_false_iff_ne]; have := Nat.two_pow_pos k; omega) h1 (by rw [List.getElem?_map, h2]; rfl) (by omega) (dB_ok k hk)
  generalize ((2 ^ k : Nat) : Int) = x at *
  refine ACall.walk k115 ?_
  unfold c115
  simp only [go_sem, Nat.reduceEqDiff]
  refine ACallL.quiet1 h93 rfl rfl rfl ?_
  simp only [go_sem, Nat.reduceEqDiff]
  exact finL_ret [] ⟨rfl, rfl, rfl, rfl, _, rfl, res_mk rfl⟩
def liftK (step floor w v : Int) (k : Nat) : Bool := !(k == 0) && (decide (deepI step w (k - 1) > 0) && decide (deepI step w (k - 1) + v > floor))
def flV (s : Su) : List Int → Bool
  | [f, _, _, w, v, p] => liftK s.step f w v p.toNat.log2
  | _ => false
abbrev shN : Sh := (some [some .i64, some .i64, some .i64, some .i64, some .i64, some .u64], none)
def MapOK (s : Su) (ks : List (Nat × List Int)) (xs : List T) : Prop := ks.length = xs.length ∧ ∀ (i : Nat) e x, ks[i]? = some e → xs[i]? = some x → e.2.length = 6 ∧ x = vb (flV s e.2)
theorem MapOK.nil (s : Su) : MapOK s [] [] := ⟨rfl, fun i e x h => by simp at h⟩
theorem MapOK.find {s : Su} {ks : List (Nat × List Int)} {xs : List T} (M : MapOK s ks xs) {key : List Int} (hk : key.length = 6) {i : Nat} (hf : kfind shN ks key = some i) : xs[i]? = some (vb (flV s key)) := by
  unfold kfind at hf
  obtain ⟨hi, hp, _⟩ := List.findIdx?_eq_some_iff_getElem.1 hf
  have hix : i < xs.length := by rw [← M.1]; exact hi
  obtain ⟨e1, e2⟩ := M.2 i ks[i] xs[i] (List.getElem?_eq_getElem hi) (List.getElem?_eq_getElem hix)
  rw [kEq_int rfl hk e1] at hp
  have := of_decide_eq_true hp
  rw [List.getElem?_eq_getElem hix, e2, this]
theorem MapOK.put {s : Su} {ks : List (Nat × List Int)} {xs : List T} (M : MapOK s ks xs) {key : List Int} (hk : key.length = 6) {i : Nat} (hf : kfind shN ks key = some i) : MapOK s ks (xs.set i (vb (flV s key))) := by
  have hx := M.find hk hf
  have : xs.set i (vb (flV s key)) = xs := by
    apply List.ext_getElem?
    intro j
    by_cases hj : i = j
    · subst hj
      rw [List.getElem?_set_self (List.getElem?_eq_some_iff.1 hx).1, hx]
    · rw [List.getElem?_set_ne hj]
  rw [this]; exact M
theorem MapOK.new {s : Su} {ks : List (Nat × List Int)} {xs : List T} (M : MapOK s ks xs) {key : List Int} (hk : key.length = 6) {clk : Nat} : MapOK s (ks ++ [(clk, key)]) (xs ++ [vb (flV s key)]) := by
  refine ⟨by simp [M.1], fun i e x h1 h2 => ?_⟩
  by_cases hi : i < ks.length
  · rw [List.getElem?_append_left hi] at h1
    rw [List.getElem?_append_left (by rw [← M.1]; exact hi)] at h2
    exact M.2 i e x h1 h2
  · have hlt := (List.getElem?_eq_some_iff.1 h1).1
    simp at hlt
    obtain rfl : i = ks.length := by omega
    rw [List.getElem?_append_right (by omega)] at h1
    rw [M.1, List.getElem?_append_right (by omega)] at h2
    simp at h1 h2
    subst h1 h2
    exact ⟨hk, rfl⟩
abbrev seaE (s : Su) (m : Nat) : E := .vp [.t (vi s.rows), .t (vi s.step), .t (.slice 2 (s.water.map tSp)), .t (.slice 2 (s.waves.map tSp)), .t (.slice 3 (s.huts.map tHu)), .map m] 0
abbrev Memo (s : Su) (o : AO) : Prop := ∃ ks xs clk, MapOK s ks xs ∧ o = .map shN ks xs clk
abbrev tNow (h : Hu) (w v : Int) (p : Int) : T := .agg [vi h.floor, vi h.brake, vi h.row, vi w, vi v, vu p]
abbrev keyN (h : Hu) (w v : Int) (p : Int) : List Int := [h.floor, h.brake, h.row, w, v, p]
theorem toKeyN (a b c d e p : Int) : toKey (some [some .i64, some .i64, some .i64, some .i64, some .i64, some .u64], none) (.t (.agg [vi a, vi b, vi c, vi d, vi e, vu p])) = some [a, b, c, d, e, p] := by
  simp [toKey, cellKeys, cellKey]
theorem mul_bnd {a b : Int} (ha : 0 ≤ a ∧ a ≤ 4) (hb : -1 ≤ b ∧ b ≤ 10) : -4 ≤ a * b ∧ a * b ≤ 40 := by
  have : a = 0 ∨ a = 1 ∨ a = 2 ∨ a = 3 ∨ a = 4 := by omega
  rcases this with rfl | rfl | rfl | rfl | rfl <;> omega
theorem flV_pow (s : Su) (h : Hu) (w v : Int) (k : Nat) : flV s (keyN h w v (2 ^ k : Nat)) = liftK s.step h.floor w v k := by
  simp only [flV, Int.toNat_natCast, Nat.log2_two_pow]
set_option maxRecDepth 8000 in
set_option maxHeartbeats 4000000 in
theorem floats_ok (s : Su) (hs : 0 ≤ s.step ∧ s.step ≤ 4) (h : Hu) (w v : Int) (hw : 0 ≤ w ∧ w ≤ 100) (hv : 0 ≤ v ∧ v ≤ 100) (k : Nat) (hk : k < 8) {ks : List (Nat × List Int)} {xs : List T} {clk : Nat} (M : MapOK s ks xs) :
    ACall Tryz.prog 96 [seaE s 0, .t (tNow h w v (2 ^ k : Nat))] [.map shN ks xs clk] (fun o σ' => o = .ret (.t (vb (liftK s.step h.floor w v k))) ∧ ∃ a, Memo s a ∧ σ' = [a]) := by
  refine ACall.walk k96 ?_
  unfold c96
  have hp : 2 ^ k ≤ 128 := Nat.pow_le_pow_right (n := 2) (by decide) (show k ≤ 7 by omega)
  have h54 := lost_ok (2 ^ k) (by omega)
  have h91 := tz64_ok k hk
  have hb0 : (2 ^ k).testBit 0 = (k == 0) := by rw [Nat.testBit_two_pow]; cases k <;> simp
  rw [hb0] at h54
  have hfl := flV_pow s h w v k
  have hlk : liftK s.step h.floor w v k = (!(k == 0) && (decide (deepI s.step w (k - 1) > 0) && decide (deepI s.step w (k - 1) + v > h.floor))) := rfl
  have hkl : ∀ p : Int, (keyN h w v p).length = 6 := fun _ => rfl
  obtain ⟨hf, hb, hr⟩ := h
  simp only at hfl hlk hkl
  generalize hpg : ((2 ^ k : Nat) : Int) = p at *
  generalize liftK s.step hf w v k = r at *
  have hk1 := hkl p
  cases hk2 : kfind shN ks (keyN ⟨hf, hb, hr⟩ w v p) with
  | some i =>
    have hx := M.find hk1 hk2
    rw [hfl] at hx
    simp only [go_sem, Nat.reduceEqDiff, Nat.reduceAdd, Bool.not_true, toKeyN, mapOf?, hk2, hx]
    exact finL_ret [0] ⟨rfl, rfl, rfl, rfl, _, rfl, rfl, _, ⟨_, _, _, M, rfl⟩, rfl⟩
  | none =>
    have M2 := M.new hk1 (clk := clk)
    rw [hfl] at M2
    simp only [go_sem, Nat.reduceEqDiff, Nat.reduceAdd, Bool.not_false, toKeyN, mapOf?, hk2]
    refine ACallL.quiet1 h54 rfl rfl rfl ?_
    cases hz : (k == 0)
    · have hk0 : k ≠ 0 := by simpa using hz
      have hm := mul_bnd hs (b := (k : Int) - 1) (by omega)
      have h47 := depth_ok (vi s.rows) (.slice 2 (s.water.map tSp)) (.slice 2 (s.waves.map tSp)) (.slice 3 (s.huts.map tHu)) (.map shN ks xs clk) s.step w ((k : Int) - 1) (by omega) (by omega)
      have hw1 : IntKind.i64.wrap ((k : Int) - 1) = (k : Int) - 1 := wrap_id (by omega) (by omega)
      have hd : 0 ≤ deepI s.step w ((k : Int) - 1) ∧ deepI s.step w ((k : Int) - 1) ≤ 200 := by unfold deepI; omega
      rw [hz] at hlk
      generalize deepI s.step w ((k : Int) - 1) = d at *
      have hw2 : IntKind.i64.wrap (d + v) = d + v := wrap_id (by omega) (by omega)
      simp only [go_sem, Nat.reduceEqDiff, Nat.reduceAdd, Nat.reduceLeDiff, Bool.not_false]
      refine ACallL.quiet1 h91 rfl rfl rfl ?_
      simp only [go_sem, Nat.reduceEqDiff, Nat.reduceAdd, Nat.reduceLeDiff, hw1]
      refine ACallL.quiet1 h47 rfl rfl rfl ?_
      cases h1 : decide (d > 0)
      · rw [h1] at hlk
        simp only [Bool.not_false, Bool.true_and, Bool.false_and] at hlk
        subst hlk
        simp only [go_sem, Nat.reduceEqDiff, Nat.reduceAdd, undef, undef, h1, toKeyN, hk2]
        exact finL_ret [0] ⟨rfl, rfl, rfl, rfl, _, rfl, rfl, _, ⟨_, _, _, M2, rfl⟩, rfl⟩
      · rw [h1] at hlk
        simp only [Bool.not_false, Bool.true_and] at hlk
        subst hlk
        simp only [go_sem, Nat.reduceEqDiff, Nat.reduceAdd, Nat.reduceLeDiff, undef, beq_self_eq_true, undef, h1, hw2, toKeyN, hk2]
        exact finL_ret [0] ⟨rfl, rfl, rfl, rfl, _, rfl, rfl, _, ⟨_, _, _, M2, rfl⟩, rfl⟩
    · rw [hz] at hlk
      simp only [Bool.not_true, Bool.false_and] at hlk
      subst hlk
      simp only [go_sem, Nat.reduceEqDiff, Nat.reduceAdd, Bool.not_true, undef, undef, toKeyN, hk2]
      exact finL_ret [0] ⟨rfl, rfl, rfl, rfl, _, rfl, rfl, _, ⟨_, _, _, M2, rfl⟩, rfl⟩
open Go Go.Ab
def nextP (step : Int) (h : Hu) (w v : Int) (k : Nat) : Nat := if liftK step h.floor w v k && decide (v > h.brake) then 2 ^ k / 2 else 2 ^ k
theorem nextP_lt (step : Int) (h : Hu) (w v : Int) {k : Nat} (hk : k < 8) : nextP step h w v k < 256 := by
  have hp : 2 ^ k ≤ 128 := Nat.pow_le_pow_right (n := 2) (by decide) (show k ≤ 7 by omega)
  unfold nextP
  split <;> omega
set_option maxRecDepth 8000 in
set_option maxHeartbeats 4000000 in
theorem seeG_ok (h : Hu) (w v : Int) (fl : Bool) (k : Nat) (hk : k < 8) (to : Nat) (ht : to < 256) :
    ACall Tryz.prog 140 [.ptr 0 0, .t (tNow h w v (2 ^ k : Nat)), .t (vb fl)] [.cells [.t (vu to)]] (fun o σ' => o = .ret (.tup []) ∧ σ' = [.cells [.t (vu (to ||| (if fl && decide (v > h.brake) then 2 ^ k / 2 else 2 ^ k) : Nat))]]) := by
  refine ACall.walk k140 ?_
  unfold c140
  have hp : 2 ^ k ≤ 128 := Nat.pow_le_pow_right (n := 2) (by decide) (show k ≤ 7 by omega)
  generalize 2 ^ k = p at *
  have h110 := out_ok p (by omega)
  have h1 := joined_ok to p ht (by omega)
  have h2 := joined_ok to (p / 2) ht (by omega)
  obtain ⟨f, b, r⟩ := h
  cases fl
  · simp only [go_sem, Nat.reduceEqDiff, Nat.reduceAdd, Nat.reduceLT, undef, undef]
    refine ACallL.quiet1 h1 rfl rfl rfl ?_
    simp only [go_sem, Nat.reduceEqDiff, undef, undef]
    exact finL_ret [0] ⟨rfl, rfl, rfl, rfl, _, rfl, by simp [E.gc], rfl⟩
  · simp only [go_sem, Nat.reduceEqDiff, Nat.reduceAdd, Nat.reduceLeDiff, beq_self_eq_true]
    cases hb : decide (v > b)
    · simp only [go_sem, Nat.reduceEqDiff, Nat.reduceAdd, Nat.reduceLT]
      refine ACallL.quiet1 h1 rfl rfl rfl ?_
      simp only [go_sem, Nat.reduceEqDiff, undef, undef]
      exact finL_ret [0] ⟨rfl, rfl, rfl, rfl, _, rfl, by simp [E.gc], rfl⟩
    · simp only [go_sem, Nat.reduceEqDiff]
      refine ACallL.quiet1 h110 rfl rfl rfl ?_
      simp only [go_sem, Nat.reduceEqDiff, Nat.reduceAdd, Nat.reduceLT]
      refine ACallL.quiet1 h2 rfl rfl rfl ?_
      simp only [go_sem, Nat.reduceEqDiff, undef, undef]
      exact finL_ret [0] ⟨rfl, rfl, rfl, rfl, _, rfl, by simp [E.gc], rfl⟩
open Go Go.Ab
abbrev Tl := Bool × Bool
def tTl (t : Tl) : T := .agg [vb t.1, vb t.2]
def seeF (t : Tl) (fl : Bool) : Tl := (t.1 || fl, t.2 || !fl)
set_option maxRecDepth 8000 in
set_option maxHeartbeats 4000000 in
theorem seeT_ok (x : List T) (fl : Bool) (ts : List Tl) (i : Nat) (t : Tl) (hi : ts[i]? = some t) :
    ACall Tryz.prog 138 [.elt 0 ts.length 2 i 0, .t (.agg x), .t (vb fl)] [.row 2 ((ts.map tTl).map .t)] (fun o σ' => o = .ret (.tup []) ∧ σ' = [.row 2 (((ts.set i (seeF t fl)).map tTl).map .t)]) := by
  refine ACall.walk k138 ?_
  unfold c138
  have hil := (List.getElem?_eq_some_iff.1 hi).1
  obtain ⟨y, n⟩ := t
  have hset : ∀ z : E, (((ts.map tTl).map E.t).set i z)[i]? = some z := fun z => List.getElem?_set_self (by simpa using hil)
  cases y <;> cases n
  all_goals
    simp only [go_sem, Nat.reduceEqDiff, Nat.reduceAdd, Nat.reduceLeDiff, Bool.not_true, Bool.not_false, undef, beq_self_eq_true, undef, rowLen, AO.len?, List.length_map, List.length_set, List.getElem?_map, hi, tTl, hset, List.set_set]
    refine finL_ret [0] ⟨rfl, rfl, rfl, rfl, _, rfl, by simp [E.gc], ?_⟩
    show [AO.row 2 ((List.set _ _ _).map (E.gc _ _ _))] = _
    rw [List.map_set, List.map_set, List.map_set, gc_row]
    rfl
open Go Go.Ab
def numS (x : Sp) : Nat := (x.2 - x.1 + 1).toNat
def hourRow (x y : Sp) (i : Nat) : List (Int × Int) := (List.range (numS y)).map fun j : Nat => (x.1 + (i : Int), y.1 + (j : Int))
def hoursP (x y : Sp) : List (Int × Int) := (List.range (numS x)).flatMap (hourRow x y)
def hoursL (s : Su) (h : Nat) : List (Int × Int) := hoursP (s.water.getD h (0, 0)) (s.waves.getD h (0, 0))
def vHour (o : Int × Int) : Value := .agg #[.int .i64 o.1, .int .i64 o.2]
theorem ofV_hour (o : Int × Int) : T.ofV (vHour o) = .agg [vi o.1, vi o.2] := rfl
theorem flat_len {α : Type} (g : Nat → List α) (n : Nat) (hg : ∀ i, (g i).length = n) : ∀ m, ((List.range m).flatMap g).length = m * n
  | 0 => by simp
  | m + 1 => by rw [List.range_succ, List.flatMap_append, List.length_append, flat_len g n hg m]; simp [hg, Nat.succ_mul]
theorem flat_get {α : Type} (g : Nat → List α) (n : Nat) (hg : ∀ i, (g i).length = n) : ∀ (m i j : Nat), i < m → j < n → ((List.range m).flatMap g)[i * n + j]? = (g i)[j]?
  | m + 1, i, j, hi, hj => by
    rw [List.range_succ, List.flatMap_append]
    have hl := flat_len g n hg m
    by_cases c : i < m
    · have : (i + 1) * n ≤ m * n := Nat.mul_le_mul_right n (by omega)
      rw [Nat.succ_mul] at this
      rw [List.getElem?_append_left (by omega)]
      exact flat_get g n hg m i j c hj
    · have : i = m := by omega
      subst this
      rw [List.getElem?_append_right (by omega), hl, show i * n + j - i * n = j by omega]
      simp
theorem hourRow_len (x y : Sp) (i : Nat) : (hourRow x y i).length = numS y := by simp [hourRow]
theorem hoursP_len (x y : Sp) : (hoursP x y).length = numS x * numS y := flat_len _ _ (hourRow_len x y) _
theorem hoursP_at (x y : Sp) {i j : Nat} (hi : i < numS x) (hj : j < numS y) : (hoursP x y)[i * numS y + j]? = some (x.1 + i, y.1 + j) := by
  unfold hoursP
  rw [flat_get _ _ (hourRow_len x y) _ _ _ hi hj]
  unfold hourRow
  rw [List.getElem?_map, List.getElem?_range hj]
  rfl
abbrev seaT (s : Su) (m : T) : T := .ptr (.agg [vi s.rows, vi s.step, .slice 2 (s.water.map tSp), .slice 2 (s.waves.map tSp), .slice 3 (s.huts.map tHu), m]) 0
set_option maxRecDepth 8000 in
set_option maxHeartbeats 4000000 in
theorem hours_gen (s : Su) (m : T) (h : Nat) (hh : h < 9223372036854775808) (x y : Sp) (hx : s.water[h]? = some x) (hy : s.waves[h]? = some y) (bx : Near x 30) (by_ : Near y 10) :
    AGen Tryz.prog 112 [.yld, .t (.ptr (.agg [seaT s m]) 0), .t (.ptr (.agg [vi h]) 0)] ((hoursP x y).map vHour) := by
  refine AGen.walk k112 ?_
  unfold c112
  have hh0 : (0 ≤ (h : Int)) = True := by simp
  have hlen := hoursP_len x y
  have hat := fun i j hi hj => hoursP_at x y (i := i) (j := j) hi hj
  have hnx : (numS x : Int) = x.2 - x.1 + 1 := by unfold numS; omega
  have hny : (numS y : Int) = y.2 - y.1 + 1 := by unfold numS; omega
  obtain ⟨xl, xh⟩ := x
  obtain ⟨yl, yh⟩ := y
  simp only at bx by_ hnx hny hat
  generalize hP : hoursP (xl, xh) (yl, yh) = L at *
  generalize numS (xl, xh) = nx at *
  generalize numS (yl, yh) = ny at *
  simp only [go_sem, Nat.reduceEqDiff, Nat.reduceAdd, List.getElem?_map, hx, Option.map_some, tSp]
  refine awpL_loopK nx (fun i s' => s' = { env := [(4, .t (vi (xl + i))), (0, .yld), (1, .t (.ptr (.agg [seaT s m]) 0)), (2, .t (.ptr (.agg [vi h]) 0))], σ := [], k := i * ny }) ⟨_, Sub.gc [] [4, 0, 1, 2] rfl rfl, by rw [show ((0 : Nat) : Int) = 0 from rfl, Int.add_zero, Nat.zero_mul]; rfl⟩ ?_
  rintro i s' hi rfl
  simp only [go_sem, Nat.reduceEqDiff, Nat.reduceAdd, List.getElem?_map, hx, Option.map_some, tSp]
  cases g : decide (xl + (i : Int) ≤ xh)
  · have hie : i = nx := by have := of_decide_eq_false g; omega
    simp only [go_sem]
    refine finL_ret [] ⟨rfl, ?_, rfl, rfl, _, rfl, ⟨_, rfl⟩⟩
    rw [List.length_map, hlen, hie]
  have hil : i < nx := by have := of_decide_eq_true g; omega
  have hwi : IntKind.i64.wrap (xl + (i : Int) + 1) = xl + ((i + 1 : Nat) : Int) := by rw [wrap_id (by omega) (by omega)]; omega
  simp only [go_sem, Nat.reduceEqDiff, Nat.reduceAdd, List.getElem?_map, hy, Option.map_some, tSp]
  refine awpL_loopK ny (fun j s' => s' = { env := [(5, .t (vi (yl + j))), (4, .t (vi (xl + i))), (0, .yld), (1, .t (.ptr (.agg [seaT s m]) 0)), (2, .t (.ptr (.agg [vi h]) 0))], σ := [], k := i * ny + j }) ⟨_, Sub.gc [] [5, 4, 0, 1, 2] rfl rfl, by rw [show ((0 : Nat) : Int) = 0 from rfl, Int.add_zero, Nat.add_zero]; rfl⟩ ?_
  rintro j s' hj rfl
  simp only [go_sem, Nat.reduceEqDiff, Nat.reduceAdd, List.getElem?_map, hy, Option.map_some, tSp]
  cases g2 : decide (yl + (j : Int) ≤ yh)
  · have hje : j = ny := by have := of_decide_eq_false g2; omega
    simp only [go_sem, Nat.reduceEqDiff, hwi]
    refine ⟨hil, _, Sub.gc [] [4, 0, 1, 2] rfl rfl, ?_⟩
    rw [hje, show i * ny + ny = (i + 1) * ny by rw [Nat.succ_mul]]
    rfl
  have hjl : j < ny := by have := of_decide_eq_true g2; omega
  have hwj : IntKind.i64.wrap (yl + (j : Int) + 1) = yl + ((j + 1 : Nat) : Int) := by rw [wrap_id (by omega) (by omega)]; omega
  simp only [go_sem, Nat.reduceEqDiff, Nat.reduceAdd, Nat.reduceLeDiff, Bool.not_true, hwj]
  refine ⟨by rw [hat i j hil hjl]; rfl, hjl, _, Sub.gc [] [5, 4, 0, 1, 2] rfl rfl, ?_⟩
  rfl
theorem hours_ok (s : Su) (h : Nat) (ks : List (Nat × List Int)) (xs : List T) (clk : Nat) : ACall Tryz.prog 95 [seaE s 0, .t (vi h)] [.map shN ks xs clk] (fun o σ' => o = .ret (.fn (.func 112) [] [.vp [seaE s 0] 0, .t (.ptr (.agg [vi h]) 0)]) ∧ σ' = [.map shN ks xs clk]) := by
  refine ACall.walk k95 ?_
  unfold c95
  simp only [go_sem, Nat.reduceEqDiff, Nat.reduceAdd]
  exact finL_ret [0] ⟨rfl, rfl, rfl, rfl, _, rfl, rfl, rfl⟩
theorem lend1 {f : Nat} {args0 : List E} {a : AO} {R0 : Out → AO → Prop} (h : ACall Tryz.prog f args0 [a] (fun o σ' => ∃ a', R0 o a' ∧ σ' = [a'])) {m : Nat} {σ : List AO} {b : AO} (hm : σ[m]? = some b) (hb : b = a.ren (lendR [m] σ.length))
    {args : List E} (hargs : args = E.rens (lendR [m] σ.length) args0) {R : Lz (Out → List AO → Prop)}
    (hk : ∀ o a', R0 o a' → R.get (o.ren (lendR [m] σ.length)) (σ.set m (a'.ren (lendR [m] σ.length)))) : @ACallL Tryz.prog f args σ R := by
  have hml := (List.getElem?_eq_some_iff.1 hm).1
  have e0 : lendR [m] σ.length 0 = m := rfl
  refine ACall.mono (ACall.lend [m] h (by simp) (by simpa using hml) rfl (fun j o ho => ?_) hargs) ?_
  · match j, ho with
    | 0, ho => simp at ho; subst ho; rw [e0, hm, hb]
  · rintro o σ1 ⟨o0, σ0, ⟨a', hR, rfl⟩, _, rfl, rfl⟩
    have := hk o0 a' hR
    have hs : lendB σ [m] ([a'].map (AO.ren (lendR [m] σ.length))) = σ.set m (a'.ren (lendR [m] σ.length)) := by
      apply List.ext_getElem?
      intro i
      by_cases hi : i = m
      · subst hi
        rw [lendB_kept (j := 0) (by simp) (by simp) (by simpa using hml) rfl, List.getElem?_set_self hml]
        rfl
      · by_cases hil : i < σ.length
        · rw [lendB_other hil (by simpa using hi), List.getElem?_set_ne (Ne.symm hi)]
        · rw [List.getElem?_eq_none (by rw [lendB_length (by simp)]; simp; omega), List.getElem?_eq_none (by rw [List.length_set]; omega)]
    rw [hs]
    exact this
theorem lend2 {f : Nat} {args0 : List E} {a c : AO} {R0 : Out → AO → AO → Prop} (h : ACall Tryz.prog f args0 [a, c] (fun o σ' => ∃ a' c', R0 o a' c' ∧ σ' = [a', c'])) {m g : Nat} {σ : List AO} {b d : AO} (hmg : m ≠ g) (hm : σ[m]? = some b) (hg : σ[g]? = some d)
    (hb : b = a.ren (lendR [m, g] σ.length)) (hd : d = c.ren (lendR [m, g] σ.length))
    {args : List E} (hargs : args = E.rens (lendR [m, g] σ.length) args0) {R : Lz (Out → List AO → Prop)}
    (hk : ∀ o a' c', R0 o a' c' → R.get (o.ren (lendR [m, g] σ.length)) ((σ.set m (a'.ren (lendR [m, g] σ.length))).set g (c'.ren (lendR [m, g] σ.length)))) : @ACallL Tryz.prog f args σ R := by
  have hml := (List.getElem?_eq_some_iff.1 hm).1
  have hgl := (List.getElem?_eq_some_iff.1 hg).1
  have e0 : lendR [m, g] σ.length 0 = m := rfl
  have e1 : lendR [m, g] σ.length 1 = g := rfl
  have hnd : [m, g].Nodup := by simp [hmg]
  have hlt : ∀ k ∈ [m, g], k < σ.length := by simp; omega
  refine ACall.mono (ACall.lend [m, g] h hnd hlt rfl (fun j o ho => ?_) hargs) ?_
  · match j, ho with
    | 0, ho => simp at ho; subst ho; rw [e0, hm, hb]
    | 1, ho => simp at ho; subst ho; rw [e1, hg, hd]
  · rintro o σ1 ⟨o0, σ0, ⟨a', c', hR, rfl⟩, _, rfl, rfl⟩
    have := hk o0 a' c' hR
    have hs : lendB σ [m, g] ([a', c'].map (AO.ren (lendR [m, g] σ.length))) = (σ.set m (a'.ren (lendR [m, g] σ.length))).set g (c'.ren (lendR [m, g] σ.length)) := by
      apply List.ext_getElem?
      intro i
      by_cases hi : i = g
      · subst hi
        rw [lendB_kept (j := 1) (by simp) hnd hlt rfl, List.getElem?_set_self (by rw [List.length_set]; exact hgl)]
        rfl
      · by_cases hi2 : i = m
        · subst hi2
          rw [lendB_kept (j := 0) (by simp) hnd hlt rfl, List.getElem?_set_ne (Ne.symm hi), List.getElem?_set_self hml]
          rfl
        · by_cases hil : i < σ.length
          · rw [lendB_other hil (by simp [hi, hi2]), List.getElem?_set_ne (Ne.symm hi), List.getElem?_set_ne (Ne.symm hi2)]
          · rw [List.getElem?_eq_none (by rw [lendB_length (by simp)]; simp; omega), List.getElem?_eq_none (by rw [List.length_set, List.length_set]; omega)]
    rw [hs]
    exact this
open Go Go.Ab
def foldP {α : Type} (f : Nat → α → Int × Int → α) (L : List (Int × Int)) (frm : Nat) (x : α) : Nat → α
  | 0 => x
  | j + 1 => if frm.testBit j then L.foldl (f j) (foldP f L frm x j) else foldP f L frm x j
def stG (s : Su) (h : Hu) (k : Nat) (acc : Nat) (o : Int × Int) : Nat := acc ||| nextP s.step h o.1 o.2 k
def stT (s : Su) (h : Hu) (k : Nat) (t : Tl) (o : Int × Int) : Tl := seeF t (liftK s.step h.floor o.1 o.2 k)
theorem foldG_lt (s : Su) (h : Hu) {k : Nat} (hk : k < 8) : ∀ (L : List (Int × Int)) (x : Nat), x < 256 → L.foldl (stG s h k) x < 256
  | [], _, hx => hx
  | o :: L, x, hx => foldG_lt s h hk L _ (Nat.or_lt_two_pow (n := 8) hx (nextP_lt _ _ _ _ hk))
theorem foldPG_lt (s : Su) (h : Hu) (L : List (Int × Int)) (frm x : Nat) (hx : x < 256) : ∀ j, j ≤ 8 → foldP (stG s h) L frm x j < 256
  | 0, _ => hx
  | j + 1, hj => by
    have ih := foldPG_lt s h L frm x hx j (by omega)
    simp only [foldP]
    split
    · exact foldG_lt s h (by omega) L _ ih
    · exact ih
theorem foldP_end {α : Type} (f : Nat → α → Int × Int → α) (L : List (Int × Int)) {frm : Nat} (x : α) {j : Nat} (hj : frm < 2 ^ j) : ∀ d, foldP f L frm x (j + d) = foldP f L frm x j
  | 0 => rfl
  | d + 1 => by
    have : frm.testBit (j + d) = false := Nat.testBit_lt_two_pow (Nat.lt_of_lt_of_le hj (Nat.pow_le_pow_right (by decide) (by omega)))
    show (if frm.testBit (j + d) then _ else _) = _
    rw [this, if_neg (by simp)]
    exact foldP_end f L x hj d
theorem take_foldl {α β : Type} (f : α → β → α) (x : α) (L : List β) {j : Nat} {o : β} (h : L[j]? = some o) : (L.take (j + 1)).foldl f x = f ((L.take j).foldl f x) o := by
  obtain ⟨hk, e⟩ := List.getElem?_eq_some_iff.1 h
  rw [List.take_succ_eq_append_getElem hk, List.foldl_append, e]
  rfl
theorem and_pow (j frm : Nat) (hj : j < 8) (hf : frm < 256) : (bits .and .u64 ((2 ^ j : Nat) : Int) (frm : Int) == 0) = !frm.testBit j := by
  have hp : 2 ^ j ≤ 128 := Nat.pow_le_pow_right (n := 2) (by decide) (show j ≤ 7 by omega)
  have := Nat.two_pow_pos j
  have h2 : 2 ^ j &&& frm = if frm.testBit j then 2 ^ j else 0 := by
    apply Nat.eq_of_testBit_eq
    intro i
    rw [Nat.testBit_and, Nat.testBit_two_pow]
    by_cases e : j = i
    · subst e; cases hb : frm.testBit j <;> simp
    · cases frm.testBit j <;> simp [e]
  rw [ubits_and (by omega) (by omega), h2]
  cases frm.testBit j
  · rfl
  · simp only [if_true, Bool.not_true, beq_eq_false_iff_ne]; omega
theorem ushl1 (j : Nat) (hj : j < 9) : IntKind.u64.wrap (((2 ^ j : Nat) : Int) * 2 ^ (min 1 64)) = ((2 ^ (j + 1) : Nat) : Int) :=
  dec7 (p := fun j => IntKind.u64.wrap (((2 ^ j : Nat) : Int) * 2 ^ (min 1 64)) = ((2 ^ (j + 1) : Nat) : Int)) (by decide +kernel) j hj
theorem hoursP_bnd {x y : Sp} (bx : Near x 30) (by_ : Near y 10) {o : Int × Int} (h : o ∈ hoursP x y) : (x.1 ≤ o.1 ∧ o.1 ≤ x.2) ∧ y.1 ≤ o.2 ∧ o.2 ≤ y.2 := by
  unfold hoursP hourRow at h
  simp only [List.mem_flatMap, List.mem_map, List.mem_range] at h
  obtain ⟨i, hi, j, hj, rfl⟩ := h
  unfold numS at hi hj
  simp only
  omega
theorem seaCall (s : Su) (hs : 0 ≤ s.step ∧ s.step ≤ 4) (h : Hu) (w v : Int) (hw : 0 ≤ w ∧ w ≤ 100) (hv : 0 ≤ v ∧ v ≤ 100) (k : Nat) (hk : k < 8) {ks : List (Nat × List Int)} {xs : List T} {clk : Nat} (M : MapOK s ks xs) :
    ACall Tryz.prog 96 [seaE s 0, .t (tNow h w v (2 ^ k : Nat))] [.map shN ks xs clk] (fun o σ' => ∃ a', (o = .ret (.t (vb (liftK s.step h.floor w v k))) ∧ Memo s a') ∧ σ' = [a']) :=
  (floats_ok s hs h w v hw hv k hk M).mono fun _ _ ⟨h1, a, h2, h3⟩ => ⟨a, ⟨h1, h2⟩, h3⟩
set_option maxRecDepth 8000 in
set_option maxHeartbeats 8000000 in
theorem lookG_ok (s : Su) (hs : s.OK) (h : Hu) (frm : Nat) (hf : frm < 256) (hr : Nat) (x y : Sp) (hx : s.water[hr]? = some x) (hy : s.waves[hr]? = some y) (to : Nat) (ht : to < 256) {ks : List (Nat × List Int)} {xs : List T} {clk : Nat} (M : MapOK s ks xs) :
    ACall Tryz.prog 67 [seaE s 0, .t (tHu h), .t (vu frm), .t (vi hr), .iface 212 (.ptr 1 0)] [.map shN ks xs clk, .cells [.t (vu to)]] (fun o σ' => ∃ a c, (o = .ret (.tup []) ∧ Memo s a ∧ c = .cells [.t (vu ((foldP (stG s h) (hoursP x y) frm to 8 : Nat) : Int))]) ∧ σ' = [a, c]) := by
  refine ACall.walk k67 ?_
  unfold c67 tHu
  have hst := hs.step
  have hrl : hr < 9 := by have := (List.getElem?_eq_some_iff.1 hx).1; have := hs.nw; omega
  have bx := hs.water _ (List.mem_of_getElem? hx)
  have by_ := hs.waves _ (List.mem_of_getElem? hy)
  have hgen := fun m => hours_gen s m hr (by omega) x y hx hy bx by_
  have hbnd := fun o h => hoursP_bnd bx by_ (o := o) h
  generalize hoursP x y = L at *
  skip
  obtain ⟨fh, bh, rh⟩ := h
  simp only [go_sem, Nat.reduceEqDiff, Nat.reduceAdd, undef]
  refine awpL_loopK 8 (fun j s' => ∃ ks xs clk d, MapOK s ks xs ∧ s' = { env := [(2, .t (vu frm)), (3, .t (vi hr)), (5, .vp [seaE s 0] 0), (6, .t (.ptr (tHu ⟨fh, bh, rh⟩) 0)), (9, .vp [.iface 212 (.ptr 1 0)] 0), (10, .ptr 2 0)], σ := [.map shN ks xs clk, .cells [.t (vu ((foldP (stG s ⟨fh, bh, rh⟩) L frm to j : Nat) : Int))], .cells [.t (vu (2 ^ j : Nat))]], df := List.replicate d .mark }) ⟨_, Sub.gc [0, 1, 5] [2, 3, 5, 6, 9, 10] rfl rfl, ks, xs, clk, 0, M, rfl⟩ ?_
  rintro j s' hj ⟨ks, xs, clk, d, M, rfl⟩
  have hX := foldPG_lt s ⟨fh, bh, rh⟩ L frm to ht j hj
  have hsucc : foldP (stG s ⟨fh, bh, rh⟩) L frm to (j + 1) = if frm.testBit j then L.foldl (stG s ⟨fh, bh, rh⟩ j) (foldP (stG s ⟨fh, bh, rh⟩) L frm to j) else foldP (stG s ⟨fh, bh, rh⟩) L frm to j := rfl
  have hend := fun hlt => foldP_end (stG s ⟨fh, bh, rh⟩) L (frm := frm) to (j := j) hlt (8 - j)
  rw [show j + (8 - j) = 8 by omega] at hend
  have hsh := ushl1 j (by omega)
  generalize foldP (stG s ⟨fh, bh, rh⟩) L frm to j = X at *
  simp only [go_sem, Nat.reduceEqDiff]
  cases g : decide (((2 ^ j : Nat) : Int) ≤ (frm : Int))
  · have hlt : frm < 2 ^ j := by have := of_decide_eq_false g; omega
    simp only [go_sem, Nat.reduceAdd]
    refine finL_ret [0, 1] ⟨by simp, rfl, rfl, rfl, _, rfl, _, _, ⟨by simp [E.gc], ⟨_, _, _, M, rfl⟩, ?_⟩, rfl⟩
    rw [hend hlt]
    rfl
  have hle : 2 ^ j ≤ frm := by have := of_decide_eq_true g; omega
  have hj8 : j < 8 := by
    apply Classical.byContradiction
    intro c
    have : j = 8 := by omega
    subst this
    omega
  have hap := and_pow j frm hj8 hf
  simp only [go_sem, Nat.reduceEqDiff, hap]
  cases hb : frm.testBit j
  · rw [hb, if_neg (by simp)] at hsucc
    simp only [go_sem, Nat.reduceEqDiff, Nat.reduceAdd, Int.reduceToNat, Int.reduceLT, Bool.not_false, undef, undef, hsh]
    refine ⟨hj8, _, Sub.gc [0, 1, 3] [2, 3, 5, 6, 9, 10] rfl rfl, ks, xs, clk, d, M, ?_⟩
    rw [hsucc]
    exact St.gc_mk rfl rfl (by simp [Df.gc]) rfl
  rw [hb, if_pos rfl] at hsucc
  simp only [go_sem, Nat.reduceEqDiff, Bool.not_true]
  refine lend1 (m := 0) ((hours_ok s hr ks xs clk).mono fun o σ' h => (⟨_, ⟨h.1, rfl⟩, h.2⟩ : ∃ a', (o = _ ∧ a' = AO.map shN ks xs clk) ∧ σ' = [a'])) rfl rfl (by simp [E.rens, E.ren]; rfl) ?_
  rintro o a' ⟨rfl, rfl⟩
  simp only [go_sem, Nat.reduceAdd, Out.ren, E.ren, E.rens, AO.ren]
  refine awpL_gcpS (Sub.wk 24) ?_
  simp only [go_sem, Nat.reduceEqDiff, E.wk, E.wks, show lendR [0] 3 0 = 0 from rfl]
  refine awpL_rangeF2 (f := 112) (fs := []) (cs := [.ptr (.agg [seaT s .hole]) 0, .ptr (.agg [vi hr]) 0]) (L.map vHour) (fun i σ => ∃ ks xs clk, MapOK s ks xs ∧ σ = [.map shN ks xs clk, .cells [.t (vu (((L.take i).foldl (stG s ⟨fh, bh, rh⟩ j) X : Nat) : Int))], .cells [.t (vu (2 ^ j : Nat))]]) [0, 1, 2] [2, 3, 5, 6, 9, 10]
    [(2, .t (vu frm)), (3, .t (vi hr)), (5, .vp [seaE s 0] 0), (6, .t (.ptr (tHu ⟨fh, bh, rh⟩) 0)), (9, .vp [.iface 212 (.ptr 1 0)] 0), (10, .ptr 2 0)] (List.replicate d .mark) rfl (by simp [St.gc, Df.gc]) rfl rfl (hgen .hole) rfl rfl ⟨ks, xs, clk, M, rfl⟩ ?_ ?_
  · rintro l i v σ hv ⟨ks, xs, clk, M, rfl⟩
    rw [List.getElem?_map] at hv
    obtain ⟨o, ho, rfl⟩ := Option.map_eq_some_iff.1 hv
    have hob := hbnd o (List.mem_of_getElem? ho)
    have htk := take_foldl (stG s ⟨fh, bh, rh⟩ j) X L ho
    have hY := foldG_lt s ⟨fh, bh, rh⟩ hj8 (L.take i) X hX
    generalize (L.take i).foldl (stG s ⟨fh, bh, rh⟩ j) X = Y at *
    obtain ⟨w, v⟩ := o
    simp only at hob
    have h89 := seaCall s hst ⟨fh, bh, rh⟩ w v (by omega) (by omega) j hj8 (clk := clk) M
    have h109 := seeG_ok ⟨fh, bh, rh⟩ w v (liftK s.step fh w v j) j hj8 Y hY
    simp only [ofV_hour]
    simp only [go_sem, Nat.reduceEqDiff, Nat.reduceAdd, Nat.reduceLeDiff, undef, undef, tHu, mfind, Option.isSome_some]
    refine lend1 (m := 0) h89 rfl rfl rfl ?_
    rintro o a' ⟨rfl, ks2, xs2, clk2, M2, rfl⟩
    simp only [go_sem, Nat.reduceEqDiff, Nat.reduceAdd, Out.ren, E.ren, AO.ren, mfind, Option.isSome_some]
    refine lend1 (m := 1) (h109.mono fun o σ' h => (⟨_, ⟨h.1, rfl⟩, h.2⟩ : ∃ a', (o = .ret (.tup []) ∧ a' = AO.cells [.t (vu ((stG s ⟨fh, bh, rh⟩ j Y (w, v) : Nat) : Int))]) ∧ σ' = [a'])) rfl rfl rfl ?_
    rintro o a' ⟨rfl, rfl⟩
    simp only [go_sem, Nat.reduceEqDiff, Nat.reduceAdd, Out.ren, E.ren, E.rens, AO.ren, mfind, Option.isSome_some]
    refine ⟨[0, 1, 2], rfl, rfl, ks2, xs2, clk2, M2, ?_⟩
    rw [htk]
    rfl
  · rintro σ ⟨ks, xs, clk, M, rfl⟩
    rw [List.length_map, List.take_length, ← hsucc]
    simp only [go_sem, Nat.reduceEqDiff, Nat.reduceAdd, Int.reduceToNat, Int.reduceLT, undef, undef, hsh]
    refine ⟨hj8, _, Sub.gc [0, 1, 3] [2, 3, 5, 6, 9, 10] rfl rfl, ks, xs, clk, d + 1, M, ?_⟩
    exact St.gc_mk rfl rfl (by simp [Df.gc, List.replicate_succ]) rfl
set_option maxRecDepth 8000 in
set_option maxHeartbeats 8000000 in
theorem lookT_ok (s : Su) (hs : s.OK) (h : Hu) (frm : Nat) (hf : frm < 256) (hr : Nat) (x y : Sp) (hx : s.water[hr]? = some x) (hy : s.waves[hr]? = some y) (ts : List Tl) (i0 : Nat) (t : Tl) (hi : ts[i0]? = some t) {ks : List (Nat × List Int)} {xs : List T} {clk : Nat} (M : MapOK s ks xs) :
    ACall Tryz.prog 67 [seaE s 0, .t (tHu h), .t (vu frm), .t (vi hr), .iface 149 (.elt 1 ts.length 2 i0 0)] [.map shN ks xs clk, .row 2 ((ts.map tTl).map .t)] (fun o σ' => ∃ a c, (o = .ret (.tup []) ∧ Memo s a ∧ c = .row 2 (((ts.set i0 (foldP (stT s h) (hoursP x y) frm t 8)).map tTl).map .t)) ∧ σ' = [a, c]) := by
  refine ACall.walk k67 ?_
  unfold c67 tHu
  have hst := hs.step
  have hrl : hr < 9 := by have := (List.getElem?_eq_some_iff.1 hx).1; have := hs.nw; omega
  have bx := hs.water _ (List.mem_of_getElem? hx)
  have by_ := hs.waves _ (List.mem_of_getElem? hy)
  have hgen := fun m => hours_gen s m hr (by omega) x y hx hy bx by_
  have hbnd := fun o h => hoursP_bnd bx by_ (o := o) h
  generalize hoursP x y = L at *
  have hts : ts.set i0 t = ts := by
    obtain ⟨hl, e⟩ := List.getElem?_eq_some_iff.1 hi
    rw [← e]; exact List.set_getElem_self hl
  have hset : ∀ X : Tl, (ts.set i0 X)[i0]? = some X := fun X => List.getElem?_set_self (List.getElem?_eq_some_iff.1 hi).1
  obtain ⟨fh, bh, rh⟩ := h
  simp only [go_sem, Nat.reduceEqDiff, Nat.reduceAdd, undef]
  refine awpL_loopK 8 (fun j s' => ∃ ks xs clk d, MapOK s ks xs ∧ s' = { env := [(2, .t (vu frm)), (3, .t (vi hr)), (5, .vp [seaE s 0] 0), (6, .t (.ptr (tHu ⟨fh, bh, rh⟩) 0)), (9, .vp [.iface 149 (.elt 1 ts.length 2 i0 0)] 0), (10, .ptr 2 0)], σ := [.map shN ks xs clk, .row 2 (((ts.set i0 (foldP (stT s ⟨fh, bh, rh⟩) L frm t j)).map tTl).map .t), .cells [.t (vu (2 ^ j : Nat))]], df := List.replicate d .mark }) ⟨_, Sub.gc [0, 1, 5] [2, 3, 5, 6, 9, 10] rfl rfl, ks, xs, clk, 0, M, by rw [show foldP (stT s ⟨fh, bh, rh⟩) L frm t 0 = t from rfl, hts]; exact St.gc_mk rfl (by show [AO.map _ _ _ _, AO.row 2 ((List.map E.t _).map (E.gc _ _ _)), AO.cells _] = _; rw [gc_row]; rfl) rfl rfl⟩ ?_
  rintro j s' hj ⟨ks, xs, clk, d, M, rfl⟩
  skip
  have hsucc : foldP (stT s ⟨fh, bh, rh⟩) L frm t (j + 1) = if frm.testBit j then L.foldl (stT s ⟨fh, bh, rh⟩ j) (foldP (stT s ⟨fh, bh, rh⟩) L frm t j) else foldP (stT s ⟨fh, bh, rh⟩) L frm t j := rfl
  have hend := fun hlt => foldP_end (stT s ⟨fh, bh, rh⟩) L (frm := frm) t (j := j) hlt (8 - j)
  rw [show j + (8 - j) = 8 by omega] at hend
  have hsh := ushl1 j (by omega)
  generalize foldP (stT s ⟨fh, bh, rh⟩) L frm t j = X at *
  simp only [go_sem, Nat.reduceEqDiff]
  cases g : decide (((2 ^ j : Nat) : Int) ≤ (frm : Int))
  · have hlt : frm < 2 ^ j := by have := of_decide_eq_false g; omega
    simp only [go_sem, Nat.reduceAdd]
    refine finL_ret [0, 1] ⟨by simp, rfl, rfl, rfl, _, rfl, _, _, ⟨by simp [E.gc], ⟨_, _, _, M, rfl⟩, ?_⟩, rfl⟩
    rw [hend hlt]
    show AO.row 2 ((List.map E.t _).map (E.gc _ _ _)) = _; rw [gc_row]
  have hle : 2 ^ j ≤ frm := by have := of_decide_eq_true g; omega
  have hj8 : j < 8 := by
    apply Classical.byContradiction
    intro c
    have : j = 8 := by omega
    subst this
    omega
  have hap := and_pow j frm hj8 hf
  simp only [go_sem, Nat.reduceEqDiff, hap]
  cases hb : frm.testBit j
  · rw [hb, if_neg (by simp)] at hsucc
    simp only [go_sem, Nat.reduceEqDiff, Nat.reduceAdd, Int.reduceToNat, Int.reduceLT, Bool.not_false, undef, undef, hsh]
    refine ⟨hj8, _, Sub.gc [0, 1, 3] [2, 3, 5, 6, 9, 10] rfl rfl, ks, xs, clk, d, M, ?_⟩
    rw [hsucc]
    exact St.gc_mk rfl (by show [AO.map _ _ _ _, AO.row 2 ((List.map E.t _).map (E.gc _ _ _)), AO.cells _] = _; rw [gc_row]; rfl) (by simp [Df.gc]) rfl
  rw [hb, if_pos rfl] at hsucc
  simp only [go_sem, Nat.reduceEqDiff, Bool.not_true]
  refine lend1 (m := 0) ((hours_ok s hr ks xs clk).mono fun o σ' h => (⟨_, ⟨h.1, rfl⟩, h.2⟩ : ∃ a', (o = _ ∧ a' = AO.map shN ks xs clk) ∧ σ' = [a'])) rfl rfl (by simp [E.rens, E.ren]; rfl) ?_
  rintro o a' ⟨rfl, rfl⟩
  simp only [go_sem, Nat.reduceAdd, Out.ren, E.ren, E.rens, AO.ren]
  refine awpL_gcpS (Sub.wk 24) ?_
  simp only [go_sem, Nat.reduceEqDiff, E.wk, E.wks, show lendR [0] 3 0 = 0 from rfl]
  refine awpL_rangeF2 (f := 112) (fs := []) (cs := [.ptr (.agg [seaT s .hole]) 0, .ptr (.agg [vi hr]) 0]) (L.map vHour) (fun i σ => ∃ ks xs clk, MapOK s ks xs ∧ σ = [.map shN ks xs clk, .row 2 (((ts.set i0 ((L.take i).foldl (stT s ⟨fh, bh, rh⟩ j) X)).map tTl).map .t), .cells [.t (vu (2 ^ j : Nat))]]) [0, 1, 2] [2, 3, 5, 6, 9, 10]
    [(2, .t (vu frm)), (3, .t (vi hr)), (5, .vp [seaE s 0] 0), (6, .t (.ptr (tHu ⟨fh, bh, rh⟩) 0)), (9, .vp [.iface 149 (.elt 1 ts.length 2 i0 0)] 0), (10, .ptr 2 0)] (List.replicate d .mark) rfl (by simp [St.gc, Df.gc]) rfl rfl (hgen .hole) rfl rfl ⟨ks, xs, clk, M, by rw [show (List.take 0 L).foldl (stT s ⟨fh, bh, rh⟩ j) X = X from rfl]; show [AO.map _ _ _ _, AO.row 2 ((List.map E.t _).map (E.gc _ _ _)), AO.cells _] = _; rw [gc_row]; rfl⟩ ?_ ?_
  · rintro l i v σ hv ⟨ks, xs, clk, M, rfl⟩
    rw [List.getElem?_map] at hv
    obtain ⟨o, ho, rfl⟩ := Option.map_eq_some_iff.1 hv
    have hob := hbnd o (List.mem_of_getElem? ho)
    have htk := take_foldl (stT s ⟨fh, bh, rh⟩ j) X L ho
    skip
    generalize (L.take i).foldl (stT s ⟨fh, bh, rh⟩ j) X = Y at *
    obtain ⟨w, v⟩ := o
    simp only at hob
    have h89 := seaCall s hst ⟨fh, bh, rh⟩ w v (by omega) (by omega) j hj8 (clk := clk) M
    have h112 := seeT_ok [vi fh, vi bh, vi rh, vi w, vi v, vu (2 ^ j : Nat)] (liftK s.step fh w v j) (ts.set i0 Y) i0 Y (hset Y)
    rw [List.length_set, List.set_set] at h112
    simp only [ofV_hour]
    simp only [go_sem, Nat.reduceEqDiff, Nat.reduceAdd, Nat.reduceLeDiff, undef, undef, tHu, mfind, Option.isSome_some]
    refine lend1 (m := 0) h89 rfl rfl rfl ?_
    rintro o a' ⟨rfl, ks2, xs2, clk2, M2, rfl⟩
    simp only [go_sem, Nat.reduceEqDiff, Nat.reduceAdd, Out.ren, E.ren, AO.ren, mfind, Option.isSome_some]
    refine lend1 (m := 1) (h112.mono fun o σ' h => (⟨_, ⟨h.1, rfl⟩, h.2⟩ : ∃ a', (o = .ret (.tup []) ∧ a' = AO.row 2 (((ts.set i0 (seeF Y (liftK s.step fh w v j))).map tTl).map .t)) ∧ σ' = [a'])) rfl (by simp only [AO.ren, E.rens_map, List.map_map]; rfl) rfl ?_
    rintro o a' ⟨rfl, rfl⟩
    simp only [go_sem, Nat.reduceEqDiff, Nat.reduceAdd, Out.ren, E.ren, E.rens, AO.ren, mfind, Option.isSome_some]
    refine ⟨[0, 1, 2], rfl, rfl, ks2, xs2, clk2, M2, ?_⟩
    rw [htk]
    show [AO.map _ _ _ _, AO.row 2 (((E.rens _ (List.map E.t _))).map (E.gc _ _ _)), AO.cells _] = _; rw [E.rens_map, List.map_map, List.map_map]; rfl
  · rintro σ ⟨ks, xs, clk, M, rfl⟩
    rw [List.length_map, List.take_length, ← hsucc]
    simp only [go_sem, Nat.reduceEqDiff, Nat.reduceAdd, Int.reduceToNat, Int.reduceLT, undef, undef, hsh]
    refine ⟨hj8, _, Sub.gc [0, 1, 3] [2, 3, 5, 6, 9, 10] rfl rfl, ks, xs, clk, d + 1, M, ?_⟩
    exact St.gc_mk rfl (by show [AO.map _ _ _ _, AO.row 2 ((List.map E.t _).map (E.gc _ _ _)), AO.cells _] = _; rw [gc_row]; rfl) (by simp [Df.gc, List.replicate_succ]) rfl
open Go Go.Ab
def logS (s : Su) (h : Hu) : Nat → Nat
  | 0 => 2 ^ (h.row.toNat + 1)
  | k + 1 => foldP (stG s h) (hoursL s k) (logS s h k) 0 8
theorem logS_lt (s : Su) (h : Hu) (hr : 0 ≤ h.row ∧ h.row < 6) : ∀ k, logS s h k < 256
  | 0 => by
    have : 2 ^ (h.row.toNat + 1) ≤ 128 := Nat.pow_le_pow_right (n := 2) (by decide) (show h.row.toNat + 1 ≤ 7 by omega)
    show 2 ^ (h.row.toNat + 1) < 256
    omega
  | k + 1 => foldPG_lt s h _ _ 0 (by decide) 8 (by decide)
def lg (s : Su) (h : Hu) (j : Nat) : List Nat := (List.range 9).map fun i => if i ≤ j then logS s h i else 0
theorem lg_len (s : Su) (h : Hu) (j : Nat) : (lg s h j).length = 9 := by simp [lg]
theorem lg_get (s : Su) (h : Hu) {i j : Nat} (hi : i ≤ j) (hj : j < 9) : (lg s h j)[i]? = some (logS s h i) := by
  unfold lg
  rw [List.getElem?_map, List.getElem?_range (by omega), Option.map_some, if_pos hi]
theorem lg_succ (s : Su) (h : Hu) {j : Nat} (hj : j + 1 < 9) : (lg s h j).take (j + 1) ++ logS s h (j + 1) :: (lg s h j).drop (j + 1 + 1) = lg s h (j + 1) := by
  apply List.ext_getElem?
  intro i
  unfold lg
  by_cases h1 : i < j + 1
  · rw [List.getElem?_append_left (by simp; omega), List.getElem?_take, if_pos h1, List.getElem?_map, List.getElem?_map, List.getElem?_range (by omega), Option.map_some, Option.map_some, if_pos (by omega), if_pos (by omega)]
  · have hl : (((List.range 9).map fun i => if i ≤ j then logS s h i else 0).take (j + 1)).length = j + 1 := by simp; omega
    rw [List.getElem?_append_right (by omega), hl]
    by_cases h2 : i = j + 1
    · subst h2
      rw [Nat.sub_self, List.getElem?_cons_zero, List.getElem?_map, List.getElem?_range (by omega), Option.map_some, if_pos (by omega)]
    · rw [show i - (j + 1) = (i - (j + 1 + 1)) + 1 by omega, List.getElem?_cons_succ, List.getElem?_drop, show j + 1 + 1 + (i - (j + 1 + 1)) = i by omega, List.getElem?_map, List.getElem?_map]
      by_cases h3 : i < 9
      · rw [List.getElem?_range h3, Option.map_some, Option.map_some, if_neg (by omega), if_neg (by omega)]
      · rw [List.getElem?_eq_none (l := List.range 9) (by simp; omega)]; rfl
abbrev tLog (s : Su) (h : Hu) (j : Nat) : T := .agg ((lg s h j).map fun p : Nat => vu p)
theorem hoursL_eq {s : Su} {j : Nat} {x y : Sp} (hx : s.water[j]? = some x) (hy : s.waves[j]? = some y) : hoursL s j = hoursP x y := by
  unfold hoursL
  rw [List.getD_eq_getElem?_getD, List.getD_eq_getElem?_getD, hx, hy]
  rfl
abbrev seaCallR (s : Su) (o' : Out) : Out → List AO → Prop := fun o σ' => ∃ a', (o = o' ∧ Memo s a') ∧ σ' = [a']
set_option maxRecDepth 8000 in
set_option maxHeartbeats 8000000 in
theorem follow_ok (s : Su) (hs : s.OK) (h : Hu) (hh : h.OK s.rows) {ks : List (Nat × List Int)} {xs : List T} {clk : Nat} (M : MapOK s ks xs) :
    ACall Tryz.prog 66 [seaE s 0, .t (tHu h)] [.map shN ks xs clk] (seaCallR s (.ret (.t (tLog s h s.water.length)))) := by
  refine ACall.walk k66 ?_
  unfold c66 tHu
  have hnw := hs.nw
  have hnv := hs.nv
  have hrow := hs.rows
  have h79 := at_ok h.row.toNat (by have := hh.2.2.2.2; omega)
  rw [show ((h.row.toNat : Nat) : Int) = h.row by have := hh.2.2.2.2; omega] at h79
  have hll := logS_lt s h ⟨hh.2.2.2.2.1, by have := hh.2.2.2.2.2; omega⟩
  have hl0 : logS s h 0 = 2 ^ (h.row.toNat + 1) := rfl
  rw [← hl0] at h79
  obtain ⟨fh, bh, rh⟩ := h
  simp only [go_sem, Nat.reduceEqDiff, Nat.reduceAdd]
  refine ACallL.quiet1 h79 rfl rfl rfl ?_
  simp only [go_sem, Nat.reduceEqDiff, Nat.reduceAdd, Nat.reduceMul, Nat.reduceLeDiff, Int.reduceLT, Int.reduceLE, undef, List.length_map]
  refine awpL_for (i := 17) (L := 16) s.water.length (fun j s' => ∃ ks xs clk, MapOK s ks xs ∧ s' = { env := [(17, .t (vi j)), (16, .t (vi s.water.length)), (0, seaE s 0), (3, .t (.ptr (tHu ⟨fh, bh, rh⟩) 0)), (4, .ptr 1 0)], σ := [.map shN ks xs clk, .cells (((lg s ⟨fh, bh, rh⟩ j).map fun p : Nat => vu p).map .t)] }) ?_ ⟨_, Sub.gc [0, 2] [17, 16, 0, 3, 4] rfl rfl, ks, xs, clk, M, ?_⟩ ?_ ?_
  · rintro k s' ⟨ks, xs, clk, _, rfl⟩; exact ⟨rfl, rfl⟩
  · rfl
  · rintro j s' hj ⟨ks, xs, clk, M, rfl⟩
    have hwj : IntKind.i64.wrap ((j : Int) + 1) = ((j + 1 : Nat) : Int) := by rw [wrap_id (by omega) (by omega)]; omega
    have hx : s.water[j]? = some s.water[j] := List.getElem?_eq_getElem hj
    have hy : s.waves[j]? = some s.waves[j] := List.getElem?_eq_getElem (by omega)
    have h80 := lookG_ok s hs ⟨fh, bh, rh⟩ (logS s ⟨fh, bh, rh⟩ j) (hll j) j _ _ hx hy 0 (by decide) M (clk := clk)
    have hsu : logS s ⟨fh, bh, rh⟩ (j + 1) = foldP (stG s ⟨fh, bh, rh⟩) (hoursL s j) (logS s ⟨fh, bh, rh⟩ j) 0 8 := rfl
    rw [← hoursL_eq hx hy, ← hsu] at h80
    have hlg := lg_get s ⟨fh, bh, rh⟩ (i := j) (j := j) (by omega) (by omega)
    have hlen := lg_len s ⟨fh, bh, rh⟩ j
    have hss := lg_succ s ⟨fh, bh, rh⟩ (j := j) (by omega)
    have hj9 : (j : Int) < 9 := by omega
    have hj19 : ((j + 1 : Nat) : Int) < 9 := by omega
    have hjl : (j + 1 + 1 ≤ 9) = True := by simp; omega
    generalize lg s ⟨fh, bh, rh⟩ j = O at *
    simp only [go_sem, Nat.reduceEqDiff, Nat.reduceAdd, tHu, hj9, Nat.mul_one, List.getElem?_map, hlg, Option.map_some]
    refine lend2 (m := 0) (g := 2) h80 (by decide) rfl rfl rfl rfl rfl ?_
    rintro o a c ⟨rfl, ⟨ks2, xs2, clk2, M2, rfl⟩, rfl⟩
    have hO : List.take (j + 1) (List.map E.t (List.map (fun p : Nat => vu p) O)) ++ [E.t (vu (logS s ⟨fh, bh, rh⟩ (j + 1) : Nat))] ++ List.drop (j + 1 + 1) (List.map E.t (List.map (fun p : Nat => vu p) O)) = (((lg s ⟨fh, bh, rh⟩ (j + 1)).map fun p : Nat => vu p).map .t) := by
      rw [← hss]
      simp [List.map_take, List.map_drop]
    simp only [go_sem, Nat.reduceEqDiff, undef, undef, Out.ren, E.ren, E.rens, AO.ren, hwj, hj9, hj19, Nat.mul_one, List.length_map, hlen, hjl, hO]
    refine ⟨_, Sub.gc [0, 1] [17, 16, 0, 3, 4] rfl rfl, ks2, xs2, clk2, M2, ?_⟩
    exact St.gc_mk rfl (by show [AO.map _ _ _ _, AO.cells ((List.map E.t _).map (E.gc _ _ _))] = _; rw [gc_row]) rfl rfl
  · rintro s' ⟨ks, xs, clk, M, rfl⟩
    have hlen := lg_len s ⟨fh, bh, rh⟩ s.water.length
    have htk : List.take 9 (List.map E.t (List.map (fun p : Nat => vu p) (lg s ⟨fh, bh, rh⟩ s.water.length))) = List.map E.t (List.map (fun p : Nat => vu p) (lg s ⟨fh, bh, rh⟩ s.water.length)) := List.take_of_length_le (by simp [hlen])
    have hdr : List.drop 9 (List.map E.t (List.map (fun p : Nat => vu p) (lg s ⟨fh, bh, rh⟩ s.water.length))) = [] := List.drop_eq_nil_of_le (by simp [hlen])
    simp only [go_sem, Nat.reduceEqDiff, undef, undef, List.length_map, hlen, htk, hdr, allT_t]
    refine finL_ret [0] ⟨rfl, rfl, rfl, rfl, .t (tLog s ⟨fh, bh, rh⟩ s.water.length), ?_, _, ⟨rfl, ks, xs, clk, M, rfl⟩, rfl⟩
    simp only [go_sem, Nat.reduceEqDiff, resV, resEs, lk, List.length_map, hlen, htk, allT_t]
open Go Go.Ab
def talS (s : Su) (h : Hu) (i : Nat) : Tl := foldP (stT s h) (hoursL s i) (logS s h i) (false, false) 8
def tl (s : Su) (h : Hu) (j : Nat) : List Tl := (List.range s.water.length).map fun i => if i < j then talS s h i else (false, false)
def talsS (s : Su) (h : Hu) : List Tl := (List.range s.water.length).map (talS s h)
theorem tl_len (s : Su) (h : Hu) (j : Nat) : (tl s h j).length = s.water.length := by simp [tl]
theorem tl_get (s : Su) (h : Hu) {j : Nat} (hj : j < s.water.length) : (tl s h j)[j]? = some (false, false) := by
  unfold tl
  rw [List.getElem?_map, List.getElem?_range hj, Option.map_some, if_neg (by omega)]
theorem tl_succ (s : Su) (h : Hu) {j : Nat} (hj : j < s.water.length) : (tl s h j).set j (talS s h j) = tl s h (j + 1) := by
  apply List.ext_getElem?
  intro i
  by_cases e : j = i
  · subst e
    rw [List.getElem?_set_self (by rw [tl_len]; exact hj)]
    unfold tl
    rw [List.getElem?_map, List.getElem?_range hj, Option.map_some, if_pos (by omega)]
  · rw [List.getElem?_set_ne e]
    unfold tl
    rw [List.getElem?_map, List.getElem?_map]
    by_cases hi : i < s.water.length
    · rw [List.getElem?_range hi, Option.map_some, Option.map_some]
      by_cases c : i < j
      · rw [if_pos c, if_pos (by omega)]
      · rw [if_neg c, if_neg (by omega)]
    · rw [List.getElem?_eq_none (l := List.range _) (by simp; omega)]; rfl
theorem tl_end (s : Su) (h : Hu) : tl s h s.water.length = talsS s h := by
  unfold tl talsS
  apply List.map_congr_left
  intro i hi
  rw [if_pos (List.mem_range.1 hi)]
theorem tl_zero (s : Su) (h : Hu) : ((tl s h 0).map tTl).map E.t = List.replicate s.water.length (.t (tTl (false, false))) := by
  unfold tl
  rw [List.map_map, List.map_map, List.eq_replicate_iff]
  refine ⟨by simp, fun b hb => ?_⟩
  obtain ⟨i, _, rfl⟩ := List.mem_map.1 hb
  simp
theorem gc_ptr {kp : List Nat} {σ : List AO} {id n off : Nat} {ts : List T} (h : pos? kp id = none) (ho : σ[id]? = some (.cells (ts.map E.t))) : E.gc kp σ (n + 2) (.ptr id off) = .t (.ptr (.agg ts) off) := by
  rw [E.gc]
  simp only [h, ho, gc_row, allT_t]
set_option maxRecDepth 8000 in
set_option maxHeartbeats 8000000 in
theorem tallies_ok (s : Su) (hs : s.OK) (h : Hu) (hh : h.OK s.rows) {ks : List (Nat × List Int)} {xs : List T} {clk : Nat} (M : MapOK s ks xs) :
    ACall Tryz.prog 41 [seaE s 0, .t (tHu h)] [.map shN ks xs clk] (seaCallR s (.ret (.t (.slice 2 ((talsS s h).map tTl))))) := by
  refine ACall.walk k41 ?_
  unfold c41 tHu
  have hnw := hs.nw
  have hnv := hs.nv
  have hrow := hs.rows
  have h53 := follow_ok s hs h hh M (clk := clk)
  have hll := logS_lt s h ⟨hh.2.2.2.2.1, by have := hh.2.2.2.2.2; omega⟩
  obtain ⟨fh, bh, rh⟩ := h
  have hlen := lg_len s ⟨fh, bh, rh⟩ s.water.length
  have hlg := fun i hi => lg_get s ⟨fh, bh, rh⟩ (i := i) (j := s.water.length) hi (by omega)
  simp only [tLog] at h53
  generalize lg s ⟨fh, bh, rh⟩ s.water.length = O at *
  have hdr : List.drop 9 (List.map E.t (List.map (fun p : Nat => vu p) O)) = [] := List.drop_eq_nil_of_le (by simp [hlen])
  simp only [go_sem, Nat.reduceEqDiff, Nat.reduceAdd]
  refine lend1 (m := 0) h53 rfl rfl rfl ?_
  rintro o a ⟨rfl, ks2, xs2, clk2, M2, rfl⟩
  simp only [go_sem, Nat.reduceEqDiff, Nat.reduceAdd, Nat.reduceLeDiff, undef, undef, Out.ren, E.ren, AO.ren, List.length_map, hlen]
  refine ⟨⟨by omega, by omega, by omega⟩, ?_⟩
  simp only [go_sem, List.length_replicate]
  refine awpL_for (i := 20) (L := 19) s.water.length (fun j s' => ∃ ks xs clk, MapOK s ks xs ∧ s' = { env := [(20, .t (vi j)), (19, .t (vi s.water.length)), (0, seaE s 0), (3, .t (.ptr (tHu ⟨fh, bh, rh⟩) 0)), (5, .t (.ptr (.agg (O.map fun p : Nat => vu p)) 0)), (6, .loc 1 s.water.length)], σ := [.map shN ks xs clk, .row 2 (((tl s ⟨fh, bh, rh⟩ j).map tTl).map .t)] }) ?_ ⟨_, Sub.gc [0, 3] [20, 19, 0, 3, 5, 6] rfl rfl, ks2, xs2, clk2, M2, ?_⟩ ?_ ?_
  · rintro k s' ⟨ks, xs, clk, _, rfl⟩; exact ⟨rfl, rfl⟩
  · rw [tl_zero]
    refine St.gc_mk ?_ ?_ rfl rfl
    · simp only [List.map_cons, List.map_nil, lk, Nat.reduceEqDiff, reduceIte]
      rw [gc_ptr (id := 2) (n := 10) (off := 0) (ts := O.map fun p : Nat => vu p) rfl rfl]
      rfl
    · show [AO.map _ _ _ _, AO.row 2 ((List.replicate _ _).map (E.gc _ _ _))] = _
      rw [List.map_replicate]
      rfl
  · rintro j s' hj ⟨ks, xs, clk, M, rfl⟩
    have hwj : IntKind.i64.wrap ((j : Int) + 1) = ((j + 1 : Nat) : Int) := by rw [wrap_id (by omega) (by omega)]; omega
    have hx : s.water[j]? = some s.water[j] := List.getElem?_eq_getElem hj
    have hy : s.waves[j]? = some s.waves[j] := List.getElem?_eq_getElem (by omega)
    have h80 := lookT_ok s hs ⟨fh, bh, rh⟩ (logS s ⟨fh, bh, rh⟩ j) (hll j) j _ _ hx hy (tl s ⟨fh, bh, rh⟩ j) j _ (tl_get s ⟨fh, bh, rh⟩ hj) M (clk := clk)
    rw [← hoursL_eq hx hy, show foldP (stT s ⟨fh, bh, rh⟩) (hoursL s j) (logS s ⟨fh, bh, rh⟩ j) (false, false) 8 = talS s ⟨fh, bh, rh⟩ j from rfl, tl_succ s _ hj, tl_len] at h80
    have hlen' := tl_len s ⟨fh, bh, rh⟩ j
    have hlen2 := tl_len s ⟨fh, bh, rh⟩ (j + 1)
    have hg := hlg j (by omega)
    have hj9 : (j : Int) < 9 := by omega
    have hjn : (j : Int) < (s.water.length : Int) := by omega
    generalize tl s ⟨fh, bh, rh⟩ j = U at *
    generalize tl s ⟨fh, bh, rh⟩ (j + 1) = U2 at *
    simp only [go_sem, Nat.reduceEqDiff, Nat.reduceAdd, tHu, hj9, Nat.mul_one, List.getElem?_map, hg, Option.map_some, List.length_map, hlen', hjn]
    refine lend2 (m := 0) (g := 1) h80 (by decide) rfl rfl rfl (by simp only [AO.ren, E.rens_map, List.map_map]; rfl) rfl ?_
    rintro o a c ⟨rfl, ⟨ks2, xs2, clk2, M2, rfl⟩, rfl⟩
    have hrn : ∀ ρ : Nat → Nat, E.rens ρ (List.map E.t (List.map tTl U2)) = List.map E.t (List.map tTl U2) := fun ρ => by rw [E.rens_map, List.map_map]; rfl
    simp only [go_sem, Nat.reduceEqDiff, Nat.reduceAdd, Out.ren, E.ren, E.rens, AO.ren, hwj, hj9, Nat.mul_one, hrn, List.length_map, hlen2, hjn]
    refine ⟨_, Sub.gc [0, 1] [20, 19, 0, 3, 5, 6] rfl rfl, ks2, xs2, clk2, M2, ?_⟩
    exact St.gc_mk rfl (by show [AO.map _ _ _ _, AO.row 2 ((List.map E.t _).map (E.gc _ _ _))] = _; rw [gc_row]) rfl rfl
  · rintro s' ⟨ks, xs, clk, M, rfl⟩
    rw [tl_end]
    have hl : (talsS s ⟨fh, bh, rh⟩).length = s.water.length := by simp [talsS]
    simp only [go_sem, Nat.reduceEqDiff]
    refine finL_ret [0] ⟨rfl, rfl, rfl, rfl, _, rfl, _, ⟨congrArg Out.ret (gc_loc (n := 10) (xs := (talsS s ⟨fh, bh, rh⟩).map tTl) rfl rfl (by simp [hl])), ks, xs, clk, M, rfl⟩, rfl⟩
theorem index_ok (ts : List Tl) (hl : ts.length < 9223372036854775808) : ACall Tryz.prog 97 [.t (.slice 2 (ts.map tTl)), .t (.fn (.func 98) [] [])] [] (ret (vi (match ts.findIdx? (·.1) with | some i => (i : Int) | none => -1))) := by
  refine ACall.walk k97 ?_
  unfold c97
  have h85 : ∀ t : Tl, ACall Tryz.prog 98 [.t (tTl t)] [] (ret (vb t.1)) := fun t => by
    refine ACall.walk k98 ?_
    unfold c98 tTl
    simp only [go_sem, Nat.reduceEqDiff, Nat.reduceAdd, Nat.reduceLeDiff]
    exact finL_ret [] ⟨rfl, rfl, rfl, rfl, _, rfl, res_mk rfl⟩
  simp only [go_sem, Nat.reduceEqDiff, List.length_map]
  refine awpL_for (i := 8) (L := 7) ts.length (fun j s => (∀ i < j, ∀ t, ts[i]? = some t → t.1 = false) ∧ s = { env := [(8, .t (vi j)), (7, .t (vi ts.length)), (0, .t (.slice 2 (ts.map tTl))), (1, .t (.fn (.func 98) [] []))], σ := [] }) ?_ ⟨_, Sub.gc [] [8, 7, 0, 1] rfl rfl, by simp, rfl⟩ ?_ ?_
  · rintro k s ⟨_, rfl⟩; exact ⟨rfl, rfl⟩
  · rintro j s hj ⟨hb, rfl⟩
    have hw : IntKind.i64.wrap ((j : Int) + 1) = ((j + 1 : Nat) : Int) := by rw [wrap_id (by omega) (by omega)]; omega
    have hg : ts[j]? = some ts[j] := List.getElem?_eq_getElem hj
    have h85 := h85 ts[j]
    generalize ht : ts[j] = t at *
    obtain ⟨y, n⟩ := t
    simp only [tTl] at h85
    simp only [go_sem, Nat.reduceEqDiff, Nat.reduceAdd, List.getElem?_map, hg, Option.map_some, tTl]
    refine ACallL.quiet1 h85 rfl rfl rfl ?_
    cases y
    · simp only [go_sem, Nat.reduceEqDiff, hw]
      refine ⟨_, Sub.gc [] [8, 7, 0, 1] rfl rfl, fun i hi t h => ?_, rfl⟩
      by_cases c : i < j
      · exact hb i c t h
      · have : i = j := by omega
        subst this
        rw [hg] at h
        cases h
        rfl
    · simp only [go_sem, Nat.reduceEqDiff]
      have : ts.findIdx? (·.1) = some j := by
        rw [List.findIdx?_eq_some_iff_getElem]
        refine ⟨hj, by rw [ht], fun i hi => ?_⟩
        have := hb i hi _ (List.getElem?_eq_getElem (by omega))
        rw [this]; simp
      exact finL_ret [] ⟨rfl, rfl, rfl, rfl, _, rfl, res_mk (by rw [this]; rfl)⟩
  · rintro s ⟨hb, rfl⟩
    have : ts.findIdx? (·.1) = none := by
      rw [List.findIdx?_eq_none_iff]
      intro t ht
      obtain ⟨i, hi⟩ := List.getElem?_of_mem ht
      rw [hb i (List.getElem?_eq_some_iff.1 hi).1 t hi]
    simp only [go_sem, Int.reduceNeg]
    exact finL_ret [] ⟨rfl, rfl, rfl, rfl, _, rfl, res_mk (by rw [this]; rfl)⟩
def firstS (s : Su) (h : Hu) : Int := match (talsS s h).findIdx? (·.1) with | some i => (i : Int) | none => -1
theorem first_ok (s : Su) (hs : s.OK) (h : Hu) (hh : h.OK s.rows) {ks : List (Nat × List Int)} {xs : List T} {clk : Nat} (M : MapOK s ks xs) :
    ACall Tryz.prog 72 [seaE s 0, .t (tHu h)] [.map shN ks xs clk] (seaCallR s (.ret (.t (vi (firstS s h))))) := by
  refine ACall.walk k72 ?_
  unfold c72
  have h59 := tallies_ok s hs h hh M (clk := clk)
  have hl : (talsS s h).length = s.water.length := by simp [talsS]
  have hnw := hs.nw
  have h84 := index_ok (talsS s h) (by omega)
  obtain ⟨fh, bh, rh⟩ := h
  simp only [tHu] at h59 ⊢
  simp only [go_sem, Nat.reduceEqDiff, Nat.reduceAdd]
  refine lend1 (m := 0) h59 rfl rfl rfl ?_
  rintro o a ⟨rfl, ks2, xs2, clk2, M2, rfl⟩
  simp only [go_sem, Nat.reduceEqDiff, Out.ren, E.ren, AO.ren]
  refine ACallL.quiet1 h84 rfl rfl rfl ?_
  simp only [go_sem, Nat.reduceEqDiff, Int.reduceNeg]
  exact finL_ret [0] ⟨rfl, rfl, rfl, rfl, _, rfl, _, ⟨rfl, ks2, xs2, clk2, M2, rfl⟩, rfl⟩
open Go Go.Ab
def openR (s : Su) (is : Bool) : Out → List AO → Prop := fun o σ' => if s.ok then (if is then o = .ret (seaE s 0) ∧ σ' = [.map shN [] [] 0] else o = .pan (rfs 2) ∧ σ' = []) else o = .pan (rfs 1) ∧ σ' = []
theorem openR_bad {s : Su} (is : Bool) (h : ¬ s.OK) : openR s is (.pan (rfs 1)) [] := by
  have : s.ok = false := by rw [← Bool.not_eq_true, s.ok_iff]; exact h
  simp only [openR, this, Bool.false_eq_true, if_false, and_self]
theorem openR_rng {s : Su} (hok : s.ok = true) : openR s false (.pan (rfs 2)) [] := by
  simp only [openR, hok, if_true, Bool.false_eq_true, if_false, and_self]
theorem openR_ok {s : Su} (hok : s.ok = true) : openR s true (.ret (seaE s 0)) [.map shN [] [] 0] := by
  simp only [openR, hok, if_true, and_self]
def OpMid (s : Su) (is : Bool) (st : St) : Prop := lk st.env 2 = .ptr 0 0 ∧ lk st.env 1 = .t (vb is) ∧ st.σ = [.cells ((su5 s).map .t)] ∧ st.df = [] ∧ st.k = 0
def OpMid5 (s : Su) (is : Bool) (st : St) : Prop := lk st.env 5 = .t (.fn (.func 65) [] []) ∧ OpMid s is st
set_option maxRecDepth 8000 in
set_option maxHeartbeats 8000000 in
theorem open_ok (s : Su) (is : Bool) (hl : Lens s) : ACall Tryz.prog 39 [.t (.agg (su5 s)), .t (vb is)] [] (openR s is) := by
  refine ACall.walk k39 ?_
  unfold c39
  refine awpL_chop 3 (c1 := ?a1) (c2 := ?a2) (fun st => (wI s.rows 1 6 = true ∧ wI s.step 0 4 = true ∧ s.water.length ≤ 8 ∧ s.waves.length = s.water.length ∧ s.huts.length ≤ 5) ∧ OpMid5 s is st) ?hc ?_ ?_
  case hc => simp only [chop]; rfl
  · unfold su5
    have bad : ¬ s.OK → openR s is (.pan (rfs 1)) [] := openR_bad is
    simp only [go_sem, Nat.reduceEqDiff, Nat.reduceAdd, Nat.reduceLeDiff]
    refine ACallL.quiet1 (within_ok _ _ _) rfl rfl rfl ?_
    cases h1 : wI s.rows 1 6
    · simp only [go_sem, Nat.reduceEqDiff, undef, undef]
      refine ACallL.quiet1 (ask_ok false 1) rfl rfl rfl ?_
      simp only [askO, go_sem]
      exact finL_pan [] ⟨rfl, rfl, rfl, rfl, bad fun k => by have := k.rows; simp [wI] at h1; omega⟩
    simp only [go_sem, Nat.reduceEqDiff, Nat.reduceAdd, Nat.reduceLeDiff, beq_self_eq_true]
    refine ACallL.quiet1 (within_ok _ _ _) rfl rfl rfl ?_
    cases h2 : wI s.step 0 4
    · simp only [go_sem, Nat.reduceEqDiff, undef, undef]
      refine ACallL.quiet1 (ask_ok false 1) rfl rfl rfl ?_
      simp only [askO, go_sem]
      exact finL_pan [] ⟨rfl, rfl, rfl, rfl, bad fun k => by have := k.step; simp [wI] at h2; omega⟩
    simp only [go_sem, Nat.reduceEqDiff, Nat.reduceAdd, Nat.reduceLeDiff, beq_self_eq_true, List.length_map]
    cases h3 : decide ((s.water.length : Int) ≤ 8)
    · simp only [go_sem, Nat.reduceEqDiff, undef, undef]
      refine ACallL.quiet1 (ask_ok false 1) rfl rfl rfl ?_
      simp only [askO, go_sem]
      exact finL_pan [] ⟨rfl, rfl, rfl, rfl, bad fun k => by have := k.nw; have := of_decide_eq_false h3; omega⟩
    simp only [go_sem, Nat.reduceEqDiff, Nat.reduceAdd, Nat.reduceLeDiff, beq_self_eq_true, List.length_map]
    cases h4 : ((s.waves.length : Int) == s.water.length)
    · simp only [go_sem, Nat.reduceEqDiff, undef, undef]
      refine ACallL.quiet1 (ask_ok false 1) rfl rfl rfl ?_
      simp only [askO, go_sem]
      exact finL_pan [] ⟨rfl, rfl, rfl, rfl, bad fun k => by have := k.nv; rw [this] at h4; simp at h4⟩
    simp only [go_sem, Nat.reduceEqDiff, Nat.reduceAdd, beq_self_eq_true, List.length_map]
    refine ACallL.quiet1 (ask_ok _ 1) rfl rfl (by simp only [askO]; split <;> rfl) ?_
    cases h5 : decide ((s.huts.length : Int) ≤ 5)
    · simp only [askO, go_sem]
      exact finL_pan [] ⟨rfl, rfl, rfl, rfl, bad fun k => by have := k.nh; have := of_decide_eq_false h5; omega⟩
    simp only [askO, go_sem]
    refine ⟨⟨?_, ?_, ?_⟩, rfl, rfl, rfl, rfl, rfl, rfl⟩
    · have := of_decide_eq_true h3; omega
    · have := eq_of_beq h4; omega
    · have := of_decide_eq_true h5; omega
  rintro ⟨env, σ, df, k⟩ ⟨⟨v1, v2, v3, v4, v5⟩, q5, q2, q1, hσ, hdf, hk⟩
  simp only at q5 q2 q1 hσ hdf hk
  subst hσ hdf hk
  have w1 : 1 ≤ s.rows ∧ s.rows ≤ 6 := by simpa [wI] using v1
  have w2 : 0 ≤ s.step ∧ s.step ≤ 4 := by simpa [wI] using v2
  -- the hours
  refine awpL_chop 1 (c1 := ?b1) (c2 := ?b2) (fun st => ((∀ x ∈ s.water, Near x 30) ∧ ∀ x ∈ s.waves, Near x 10) ∧ OpMid s is st) ?hc2 ?_ ?_
  case hc2 => simp only [chop]; rfl
  · unfold su5
    simp only [go_sem, Nat.reduceEqDiff, Nat.reduceAdd, Nat.reduceLeDiff, q2, List.length_map]
    refine awpL_for (i := 43) (L := 42) s.water.length (fun j st => ((∀ x ∈ s.water.take j, Near x 30) ∧ ∀ x ∈ s.waves.take j, Near x 10) ∧ st = { env := [(43, .t (vi j)), (42, .t (vi s.water.length)), (41, .t (.slice 2 (s.water.map tSp))), (5, .t (.fn (.func 65) [] [])), (2, .ptr 0 0), (1, .t (vb is))], σ := [.cells ((su5 s).map .t)] }) ?_ ⟨_, Sub.gc [0] [43, 42, 41, 5, 2, 1] rfl rfl, ⟨by simp, by simp⟩, ?_⟩ ?_ ?_
    · rintro k st ⟨_, rfl⟩; exact ⟨rfl, rfl⟩
    · exact St.gc_mk (by simp only [List.map_cons, List.map_nil, lk, Nat.reduceEqDiff, reduceIte, q5, q2, q1]; rfl) rfl rfl rfl
    · rintro j st hj ⟨⟨hK1, hK2⟩, rfl⟩
      have hx : s.water[j]? = some s.water[j] := List.getElem?_eq_getElem hj
      have hy : s.waves[j]? = some s.waves[j] := List.getElem?_eq_getElem (by omega)
      have tx : s.water.take (j + 1) = s.water.take j ++ [s.water[j]] := by rw [List.take_add_one, hx]; rfl
      have ty : s.waves.take (j + 1) = s.waves.take j ++ [s.waves[j]] := by rw [List.take_add_one, hy]; rfl
      have mx := List.getElem_mem hj
      have my := List.getElem_mem (show j < s.waves.length by omega)
      have hw : IntKind.i64.wrap ((j : Int) + 1) = ((j + 1 : Nat) : Int) := by rw [wrap_id (by omega) (by omega)]; omega
      generalize s.water[j] = x at *
      generalize s.waves[j] = y at *
      have nx := near_ok x 30 (by decide)
      have ny := near_ok y 10 (by decide)
      have bad1 : nearB x 30 = false → openR s is (.pan (rfs 1)) [] := fun h => openR_bad is fun k => by rw [(nearB_iff x 30).2 (k.water x mx)] at h; cases h
      have bad2 : nearB y 10 = false → openR s is (.pan (rfs 1)) [] := fun h => openR_bad is fun k => by rw [(nearB_iff y 10).2 (k.waves y my)] at h; cases h
      have g1 := (nearB_iff x 30).1
      have g2 := (nearB_iff y 10).1
      obtain ⟨xl, xh⟩ := x
      obtain ⟨yl, yh⟩ := y
      simp only [tSp] at nx ny
      generalize nearB (xl, xh) 30 = b1 at *
      generalize nearB (yl, yh) 10 = b2 at *
      simp only [su5, go_sem, Nat.reduceEqDiff, Nat.reduceAdd, undef, undef, List.getElem?_map, hx, Option.map_some, tSp]
      refine ACallL.quiet1 nx rfl rfl rfl ?_
      cases b1
      · simp only [go_sem, Nat.reduceEqDiff, undef, undef]
        refine ACallL.quiet1 (ask_ok false 1) rfl rfl rfl ?_
        simp only [askO, go_sem]
        exact finL_pan [] ⟨rfl, rfl, rfl, rfl, bad1 rfl⟩
      simp only [go_sem, Nat.reduceEqDiff, Nat.reduceAdd, Nat.reduceLeDiff, beq_self_eq_true, List.getElem?_map, hy, Option.map_some, tSp]
      refine ACallL.quiet1 ny rfl rfl rfl ?_
      cases b2
      · simp only [go_sem, Nat.reduceEqDiff]
        refine ACallL.quiet1 (ask_ok false 1) rfl rfl rfl ?_
        simp only [askO, go_sem]
        exact finL_pan [] ⟨rfl, rfl, rfl, rfl, bad2 rfl⟩
      simp only [go_sem, Nat.reduceEqDiff]
      refine ACallL.quiet1 (ask_ok true 1) rfl rfl rfl ?_
      simp only [askO, go_sem, Nat.reduceEqDiff, hw]
      refine ⟨_, Sub.gc [0] [43, 42, 41, 5, 2, 1] rfl rfl, ⟨?_, ?_⟩, rfl⟩
      · rw [tx]; intro z hz
        rcases List.mem_append.1 hz with h | h
        · exact hK1 z h
        · simp at h; subst h; exact g1 rfl
      · rw [ty]; intro z hz
        rcases List.mem_append.1 hz with h | h
        · exact hK2 z h
        · simp at h; subst h; exact g2 rfl
    · rintro st ⟨⟨hK1, hK2⟩, rfl⟩
      rw [List.take_length] at hK1
      rw [← v4, List.take_length] at hK2
      simp only [go_sem]
      exact ⟨⟨hK1, hK2⟩, rfl, rfl, rfl, rfl, rfl⟩
  rintro ⟨env, σ, df, k⟩ ⟨⟨v6, v7⟩, q2, q1, hσ, hdf, hk⟩
  simp only at q2 q1 hσ hdf hk
  subst hσ hdf hk
  -- the huts
  refine awpL_chop 1 (c1 := ?d1) (c2 := ?d2) (fun st => (∀ h ∈ s.huts, h.OK s.rows) ∧ OpMid s is st) ?hc3 ?_ ?_
  case hc3 => simp only [chop]; rfl
  · unfold su5
    simp only [go_sem, Nat.reduceEqDiff, Nat.reduceAdd, q2, List.length_map]
    refine awpL_for (i := 65) (L := 64) s.huts.length (fun j st => (∀ h ∈ s.huts.take j, h.OK s.rows) ∧ st = { env := [(65, .t (vi j)), (64, .t (vi s.huts.length)), (63, .t (.slice 3 (s.huts.map tHu))), (2, .ptr 0 0), (1, .t (vb is))], σ := [.cells ((su5 s).map .t)] }) ?_ ⟨_, Sub.gc [0] [65, 64, 63, 2, 1] rfl rfl, by simp, ?_⟩ ?_ ?_
    · rintro k st ⟨_, rfl⟩; exact ⟨rfl, rfl⟩
    · exact St.gc_mk (by simp only [List.map_cons, List.map_nil, lk, Nat.reduceEqDiff, reduceIte, q2, q1]; rfl) rfl rfl rfl
    · rintro j st hj ⟨hK, rfl⟩
      have hx : s.huts[j]? = some s.huts[j] := List.getElem?_eq_getElem hj
      have tx : s.huts.take (j + 1) = s.huts.take j ++ [s.huts[j]] := by rw [List.take_add_one, hx]; rfl
      have mx := List.getElem_mem hj
      have hw : IntKind.i64.wrap ((j : Int) + 1) = ((j + 1 : Nat) : Int) := by rw [wrap_id (by omega) (by omega)]; omega
      have hr : IntKind.i64.wrap (s.rows - 1) = s.rows - 1 := wrap_id (by omega) (by omega)
      generalize s.huts[j] = x at *
      have bad : ¬ x.OK s.rows → openR s is (.pan (rfs 1)) [] := fun h => openR_bad is fun k => h (k.huts x mx)
      obtain ⟨f, b, r⟩ := x
      simp only [su5, go_sem, Nat.reduceEqDiff, Nat.reduceAdd, Nat.reduceLeDiff, undef, undef, List.getElem?_map, hx, Option.map_some, tHu]
      refine ACallL.quiet1 (within_ok _ _ _) rfl rfl rfl ?_
      cases h1 : wI f 0 40
      · simp only [go_sem, Nat.reduceEqDiff, undef, undef]
        refine ACallL.quiet1 (ask_ok false 1) rfl rfl rfl ?_
        simp only [askO, go_sem]
        exact finL_pan [] ⟨rfl, rfl, rfl, rfl, bad fun k => by simp [Hu.OK] at k; simp [wI] at h1; omega⟩
      simp only [go_sem, Nat.reduceEqDiff, Nat.reduceAdd, Nat.reduceLeDiff, beq_self_eq_true]
      refine ACallL.quiet1 (within_ok _ _ _) rfl rfl rfl ?_
      cases h2 : wI b 0 10
      · simp only [go_sem, Nat.reduceEqDiff, undef, undef]
        refine ACallL.quiet1 (ask_ok false 1) rfl rfl rfl ?_
        simp only [askO, go_sem]
        exact finL_pan [] ⟨rfl, rfl, rfl, rfl, bad fun k => by simp [Hu.OK] at k; simp [wI] at h2; omega⟩
      simp only [go_sem, Nat.reduceEqDiff, Nat.reduceAdd, Nat.reduceLeDiff, beq_self_eq_true, hr]
      refine ACallL.quiet1 (within_ok _ _ _) rfl rfl rfl ?_
      simp only [go_sem, Nat.reduceEqDiff]
      refine ACallL.quiet1 (ask_ok _ 1) rfl rfl (by simp only [askO]; split <;> rfl) ?_
      cases h3 : wI r 0 (s.rows - 1)
      · simp only [askO, go_sem]
        exact finL_pan [] ⟨rfl, rfl, rfl, rfl, bad fun k => by simp [Hu.OK] at k; simp [wI] at h3; omega⟩
      simp only [askO, go_sem, Nat.reduceEqDiff, hw]
      refine ⟨_, Sub.gc [0] [65, 64, 63, 2, 1] rfl rfl, ?_, rfl⟩
      rw [tx]; intro z hz
      rcases List.mem_append.1 hz with h | h
      · exact hK z h
      · simp at h; subst h; simp [wI] at h1 h2 h3; simp [Hu.OK]; omega
    · rintro st ⟨hK, rfl⟩
      rw [List.take_length] at hK
      simp only [go_sem]
      exact ⟨hK, rfl, rfl, rfl, rfl, rfl⟩
  rintro ⟨env, σ, df, k⟩ ⟨v8, q2, q1, hσ, hdf, hk⟩
  simp only at q2 q1 hσ hdf hk
  subst hσ hdf hk
  have hok : s.ok = true := (s.ok_iff).2 ⟨w1, w2, v3, v4, v5, v6, v7, v8⟩
  unfold su5
  simp only [go_sem, q1]
  refine ACallL.quiet1 (ask_ok _ 2) rfl rfl (by simp only [askO]; split <;> rfl) ?_
  cases is
  · simp only [askO, go_sem]
    exact finL_pan [] ⟨rfl, rfl, rfl, rfl, openR_rng hok⟩
  · simp only [askO, go_sem, Nat.reduceEqDiff, Nat.reduceAdd, Nat.reduceLeDiff, q2]
    exact finL_ret [1] ⟨rfl, rfl, rfl, rfl, _, rfl, openR_ok hok⟩
open Go Go.Ab
theorem lendB_nil (σ l : List AO) : lendB σ [] l = σ ++ l := by simp [lendB]
theorem openL (s : Su) (is : Bool) (hl : Lens s) {σ : List AO} {R : Lz (Out → List AO → Prop)} (hbad : s.ok = false → R.get (.pan (rfs 1)) σ) (hrng : s.ok = true → is = false → R.get (.pan (rfs 2)) σ)
    (hgood : s.ok = true → is = true → R.get (.ret (seaE s σ.length)) (σ ++ [.map shN [] [] 0])) : @ACallL Tryz.prog 39 [.t (.agg (su5 s)), .t (vb is)] σ R := by
  refine ACall.mono (ACall.lend [] (open_ok s is hl) (by simp) (by simp) rfl (fun j o ho => by simp at ho) (args := [.t (.agg (su5 s)), .t (vb is)]) (by simp [E.rens, E.ren])) ?_
  rintro o σ1 ⟨o0, σ0, hR, _, rfl, rfl⟩
  rw [lendB_nil]
  unfold openR at hR
  cases hok : s.ok
  · rw [hok] at hR
    obtain ⟨rfl, rfl⟩ := hR
    rw [List.map_nil, List.append_nil]
    exact hbad hok
  · rw [hok, if_pos rfl] at hR
    cases is
    · obtain ⟨rfl, rfl⟩ := hR
      rw [List.map_nil, List.append_nil]
      exact hrng hok rfl
    · rw [if_pos rfl] at hR
      obtain ⟨rfl, rfl⟩ := hR
      exact hgood hok rfl
def spanE (d : Sp) (e : Int) : Out := .ret (.tup [.t (tSp d), .t (vi e)])
def twoE (a b e : Int) : Out := .ret (.tup [.t (vi a), .t (vi b), .t (vi e)])
open Go Go.Ab
def maskOf (p : Nat → Bool) : Nat → Nat
  | 0 => 0
  | k + 1 => if p k then maskOf p k ||| 2 ^ k else maskOf p k
theorem maskOf_lt (p : Nat → Bool) : ∀ k, maskOf p k < 2 ^ k
  | 0 => by simp [maskOf]
  | k + 1 => by
    have ih := maskOf_lt p k
    have h2 : 2 ^ (k + 1) = 2 ^ k + 2 ^ k := by rw [Nat.pow_succ]; omega
    simp only [maskOf]
    split
    · exact Nat.or_lt_two_pow (by omega) (by omega)
    · omega
theorem maskOf_bit (p : Nat → Bool) : ∀ k i, (maskOf p k).testBit i = (decide (i < k) && p i)
  | 0, i => by simp [maskOf]
  | k + 1, i => by
    simp only [maskOf]
    have ih := maskOf_bit p k i
    by_cases hi : i = k
    · subst hi
      cases hp : p i with
      | true => simp [ih]
      | false => simp [ih]
    · have e : decide (i < k + 1) = decide (i < k) := decide_eq_decide.2 (by omega)
      have e2 : (2 ^ k).testBit i = false := by rw [Nat.testBit_two_pow]; simp; omega
      split
      · rw [Nat.testBit_or, ih, e2, e]; simp
      · rw [ih, e]
def canB (s : Su) (h : Hu) (i : Nat) : Bool := (talS s h i).1
def sureB (s : Su) (h : Hu) (i : Nat) : Bool := !(talS s h i).2
abbrev canM (s : Su) (h : Hu) : Nat := maskOf (canB s h) s.water.length
abbrev sureM (s : Su) (h : Hu) : Nat := maskOf (sureB s h) s.water.length
theorem tals_get (s : Su) (h : Hu) {j : Nat} (hj : j < s.water.length) : (talsS s h)[j]? = some (talS s h j) := by
  unfold talsS
  rw [List.getElem?_map, List.getElem?_range hj]; rfl
theorem pre_ok {s : Su} (hs : s.OK) {n : Nat} {hu : Hu} (hg : s.huts[n]? = some hu) : Lens s ∧ s.ok = true ∧ s.isHut n = true ∧ hu.OK s.rows := by
  have hn := (List.getElem?_eq_some_iff.1 hg).1
  have hnw := hs.nw
  exact ⟨⟨by omega, by have := hs.nv; omega, by have := hs.nh; omega⟩, (s.ok_iff).2 hs, isHut_iff.2 ⟨by omega, by omega⟩, hs.huts _ (List.mem_of_getElem? hg)⟩
set_option maxRecDepth 8000 in
set_option maxHeartbeats 4000000 in
theorem Floats_ok (s : Su) (hs : s.OK) (n : Nat) (hu : Hu) (hg : s.huts[n]? = some hu) : ACall Tryz.prog 13 [.t (.agg (su5 s)), .t (vi n)] [] (res (twoE (sureM s hu) (canM s hu) 0)) := by
  refine ACall.walkD k13 ?_
  unfold c13
  obtain ⟨hl, hok, h1, hh⟩ := pre_ok hs hg
  have hnw := hs.nw
  have h52 := isHut_ok s hl n
  rw [h1] at h52
  have h59 := tallies_ok s hs hu hh (MapOK.nil s) (clk := 0)
  have htl : (talsS s hu).length = s.water.length := by simp [talsS]
  have hop := fun (σ : List AO) (R : Lz (Out → List AO → Prop)) h => openL (σ := σ) (R := R) s true hl (fun h => by rw [hok] at h; cases h) (fun _ h => by cases h) h
  have htg := fun j hj => tals_get s hu (j := j) hj
  have m1 : ∀ j, maskOf (canB s hu) (j + 1) = if (talS s hu j).1 then maskOf (canB s hu) j ||| 2 ^ j else maskOf (canB s hu) j := fun _ => rfl
  have m2 : ∀ j, maskOf (sureB s hu) (j + 1) = if !(talS s hu j).2 then maskOf (sureB s hu) j ||| 2 ^ j else maskOf (sureB s hu) j := fun _ => rfl
  have l1 := maskOf_lt (canB s hu)
  have l2 := maskOf_lt (sureB s hu)
  have z1 : maskOf (canB s hu) 0 = 0 := rfl
  have z2 : maskOf (sureB s hu) 0 = 0 := rfl
  unfold canM sureM
  generalize maskOf (canB s hu) = MC at *
  generalize maskOf (sureB s hu) = MS at *
  generalize talsS s hu = ts at *
  generalize talS s hu = tf at *
  obtain ⟨f, b, r⟩ := hu
  simp only [tHu] at h59
  unfold su5 at h52 hop ⊢
  simp only [go_sem, Nat.reduceEqDiff, Nat.reduceAdd, List.getElem?_map, hg, Option.map_some, tHu]
  refine ACallL.quiet1 h52 rfl rfl rfl ?_
  simp only [go_sem, Nat.reduceEqDiff, Nat.reduceAdd, List.getElem?_map, hg, Option.map_some, tHu]
  refine hop _ _ fun _ _ => ?_
  simp only [go_sem, Nat.reduceEqDiff, Nat.reduceAdd, List.getElem?_map, hg, Option.map_some, tHu]
  refine lend1 (m := 2) h59 rfl rfl rfl ?_
  rintro o a ⟨rfl, ks2, xs2, clk2, M2, rfl⟩
  simp only [go_sem, Nat.reduceEqDiff, Nat.reduceAdd, Out.ren, E.ren, AO.ren, List.getElem?_map, hg, Option.map_some, tHu, List.length_map, htl]
  refine awpL_for (i := 23) (L := 22) s.water.length (fun j st => st = { env := [(23, .t (vi j)), (22, .t (vi s.water.length)), (21, .t (.slice 2 (ts.map tTl))), (6, .ptr 0 0), (7, .t (vi (MS j : Nat))), (8, .t (vi (MC j : Nat)))], σ := [.cells [.t (vi 0)]], df := [.call 38 [.ptr 0 0]] }) ?_ ⟨_, Sub.gc [1] [23, 22, 21, 6, 7, 8] rfl rfl, ?_⟩ ?_ ?_
  · rintro k st rfl; exact ⟨rfl, rfl⟩
  · rw [z1, z2]; rfl
  · rintro j st hj rfl
    have hwj : IntKind.i64.wrap ((j : Int) + 1) = ((j + 1 : Nat) : Int) := by rw [wrap_id (by omega) (by omega)]; omega
    have sl := shl_one (i := j) (by omega)
    have hp : 2 ^ j ≤ 256 := Nat.pow_le_pow_right (n := 2) (by decide) (show j ≤ 8 by omega)
    have o1 := bits_or (a := MC j) (b := 2 ^ j) (by have := l1 j; omega) (by omega)
    have o2 := bits_or (a := MS j) (b := 2 ^ j) (by have := l2 j; omega) (by omega)
    have hj0 : ((j : Int) < 0) = False := by simp
    have hgt := htg j hj
    have m1 := m1 j
    have m2 := m2 j
    generalize tf j = t at *
    obtain ⟨y, no⟩ := t
    simp only at m1 m2
    cases y <;> cases no
    all_goals
      simp only [Bool.false_eq_true, if_false, if_true, Bool.not_true, Bool.not_false] at m1 m2
      simp only [go_sem, Nat.reduceEqDiff, Nat.reduceAdd, Nat.reduceLeDiff, Bool.not_true, Bool.not_false, undef, undef, List.getElem?_map, hgt, Option.map_some, tTl, sl, o1, o2, hj0, hwj]
      refine ⟨_, Sub.gc [0] [23, 22, 21, 6, 7, 8] rfl rfl, ?_⟩
      rw [m1, m2]
      rfl
  · rintro st rfl
    simp only [go_sem, Nat.reduceEqDiff, undef, undef]
    refine finDL_ret rfl rfl (answer_none.mono fun σ' h => ?_)
    subst h
    exact ⟨_, rfl, [], rfl, rfl, res_mk rfl⟩
open Go Go.Ab
def hB (h : Hu) (n : Nat) : Hu := ⟨h.floor, n, h.row⟩
def hF (h : Hu) (n : Nat) : Hu := ⟨n, h.brake, h.row⟩
open Go Go.Ab
def solve (can : Nat) (fs : List Int) (many : Int) (left : Nat) : Nat → Nat → List Nat → Option (List Int)
  | 0, _, _ => some []
  | l + 1, hut, full => if (ndiff can left).testBit hut then
      (List.range (fs.getD hut 0).toNat).findSome? fun h => if ((full.getD h 0 : Nat) : Int) = many then none else (solve can fs many left l (hut + 1) (full.set h (full.getD h 0 + 1))).map fun q => (h : Int) :: q
    else (solve can fs many left l (hut + 1) full).map fun q => -1 :: q
theorem findSome_range_none {α : Type} {f : Nat → Option α} {N : Nat} (h : ∀ i < N, f i = none) : (List.range N).findSome? f = none := by
  rw [List.findSome?_eq_none_iff]
  intro i hi
  exact h i (List.mem_range.1 hi)
theorem findSome_range_at {α : Type} {f : Nat → Option α} {x : α} : ∀ {N j : Nat}, (∀ i < j, f i = none) → f j = some x → j < N → (List.range N).findSome? f = some x
  | N + 1, j, h, hj, hl => by
    rw [List.range_succ, List.findSome?_append]
    by_cases c : j < N
    · rw [findSome_range_at h hj c]; rfl
    · have : j = N := by omega
      subst this
      rw [findSome_range_none h, List.findSome?_cons, hj]; rfl
def capO (n can : Nat) (fs : List Int) (many : Int) : List E := [.vp [.loc 2 n] 0, .t (.ptr (.agg [vi can]) 0), .ptr 0 0, .t (.ptr (.agg (fs.map fun z : Int => vi z)) 0), .ptr 1 0, .t (.ptr (.agg [vi many]) 0)]
def σO (n can : Nat) (fs : List Int) (many : Int) (full : List Nat) (P : List Int) : List AO := [.cells [.fn (.func 73) [] (capO n can fs many)], .cells ((full.map fun z : Nat => vi z).map .t), .row 1 ((P.map fun z : Int => vi z).map .t)]
theorem set_take {α : Type} (P : List α) {i : Nat} (v : α) (h : i < P.length) : (P.set i v).take (i + 1) = P.take i ++ [v] := by
  rw [List.take_succ_eq_append_getElem (by simpa using h), List.take_set_of_le (Nat.le_refl i), List.getElem_set_self]
theorem set_back (l : List Nat) {i x : Nat} (y : Nat) (h : l[i]? = some x) : (l.set i y).set i x = l := by
  rw [List.set_set]
  obtain ⟨hl, e⟩ := List.getElem?_eq_some_iff.1 h
  rw [← e]; exact List.set_getElem_self hl
theorem gcO (n can : Nat) (fs : List Int) (many : Int) (full : List Nat) (P : List Int) : σgc [0, 1, 2] (σO n can fs many full P) 12 = σO n can fs many full P := by
  show [AO.cells _, AO.cells ((List.map E.t _).map (E.gc _ _ _)), AO.row 1 ((List.map E.t _).map (E.gc _ _ _))] = _
  rw [gc_row, gc_row]
  rfl
def onR (n can : Nat) (fs : List Int) (many : Int) (full : List Nat) (P : List Int) (hut : Nat) (r : Option (List Int)) : Out → List AO → Prop := fun o σ' => match r with
  | some q => o = .ret (.t (vb true)) ∧ ∃ full' : List Nat, full'.length = 8 ∧ σ' = σO n can fs many full' (P.take hut ++ q)
  | none => o = .ret (.t (vb false)) ∧ ∃ X : List Int, X.length = n - hut ∧ σ' = σO n can fs many full (P.take hut ++ X)
set_option maxRecDepth 8000 in
set_option maxHeartbeats 8000000 in
theorem on_ok (n can : Nat) (fs : List Int) (many : Int) (left : Nat) (hn : n ≤ 5) (hc : can < 256) (hlf : left < 256) (hfl : fs.length = 5) (hfb : ∀ x ∈ fs, x ≤ 8) : ∀ (l hut : Nat) (full : List Nat) (P : List Int), hut + l = n → P.length = n → full.length = 8 → (∀ x ∈ full, x ≤ hut) →
    ACall Tryz.prog 73 (.t (vi hut) :: .t (vi left) :: capO n can fs many) (σO n can fs many full P) (onR n can fs many full P hut (solve can fs many left l hut full))
  | 0, hut, full, P, hl, hP, hF, hFb => by
    refine ACall.walk k73 ?_
    unfold c73 capO σO
    have hh : ((hut : Int) == (n : Int)) = true := by rw [beq_iff_eq]; omega
    simp only [go_sem, Nat.reduceEqDiff, Nat.reduceAdd, rowLen, AO.len?, List.length_map, hP, hh]
    refine finL_ret [0, 1, 2] ⟨rfl, rfl, rfl, rfl, _, rfl, rfl, full, hF, ?_⟩
    rw [List.append_nil, List.take_of_length_le (by omega)]
    show [AO.cells _, AO.cells ((List.map E.t _).map (E.gc _ _ _)), AO.row 1 ((List.map E.t _).map (E.gc _ _ _))] = _
    rw [gc_row, gc_row]
    rfl
  | l + 1, hut, full, P, hl, hP, hF, hFb => by
    refine ACall.walk k73 ?_
    unfold c73 capO σO
    have hh : ((hut : Int) == (n : Int)) = false := by rw [beq_eq_false_iff_ne]; omega
    have hhn : (hut : Int) < (n : Int) := by omega
    have hp : P[hut]? = some P[hut] := List.getElem?_eq_getElem (by omega)
    have han := bits_andNot (a := can) (b := left) (by omega) (by omega)
    have hnd := ndiff_le can left
    have hb0 := bit_eq0 (a := ndiff can left) (i := hut) (by omega)
    have hu0 : ((hut : Int) < 0) = False := by simp
    have hw : IntKind.i64.wrap ((hut : Int) + 1) = ((hut + 1 : Nat) : Int) := by rw [wrap_id (by omega) (by omega)]; omega
    have hsol : solve can fs many left (l + 1) hut full = if (ndiff can left).testBit hut then
      (List.range (fs.getD hut 0).toNat).findSome? fun h => if ((full.getD h 0 : Nat) : Int) = many then none else (solve can fs many left l (hut + 1) (full.set h (full.getD h 0 + 1))).map fun q => (h : Int) :: q
      else (solve can fs many left l (hut + 1) full).map fun q => -1 :: q := rfl
    have hset : ∀ (Q : List Int) (v : Int), ((Q.map fun z : Int => vi z).map E.t).set hut (.t (vi v)) = ((Q.set hut v).map fun z : Int => vi z).map E.t := fun Q v => by rw [List.map_set, List.map_set]
    generalize P[hut] = p0 at *
    simp only [go_sem, Nat.reduceEqDiff, Nat.reduceAdd, Bool.not_false, Int.reduceNeg, undef, rowLen, AO.len?, List.length_map, hP, hh, hhn, List.getElem?_map, hp, Option.map_some, han, hb0, hu0, hset]
    cases hb : (ndiff can left).testBit hut
    · rw [hb, if_neg (by simp)] at hsol
      have ih := on_ok n can fs many left hn hc hlf hfl hfb l (hut + 1) full (P.set hut (-1)) (by omega) (by simpa using hP) hF (fun x hx => by have := hFb x hx; omega)
      unfold capO σO at ih
      simp only [go_sem, Nat.reduceEqDiff, Bool.not_false, Int.reduceNeg, hw]
      refine ACallL.of ih ?_
      intro o σ' h
      cases hr : solve can fs many left l (hut + 1) full with
      | some q =>
        rw [hr] at h hsol
        obtain ⟨rfl, full', hf', rfl⟩ := (h : _ ∧ _)
        rw [hsol]
        simp only [σO, go_sem, Nat.reduceEqDiff, Nat.reduceAdd, Int.reduceNeg]
        refine finL_ret [0, 1, 2] ⟨rfl, rfl, rfl, rfl, _, rfl, rfl, full', hf', ?_⟩
        refine (gcO n can fs many full' _).trans ?_
        rw [set_take P (-1) (by omega), List.append_assoc]
        rfl
      | none =>
        rw [hr] at h hsol
        obtain ⟨rfl, X, hX, rfl⟩ := (h : _ ∧ _)
        rw [hsol]
        simp only [σO, go_sem, Nat.reduceEqDiff, Nat.reduceAdd, Int.reduceNeg]
        refine finL_ret [0, 1, 2] ⟨rfl, rfl, rfl, rfl, _, rfl, rfl, -1 :: X, by rw [List.length_cons]; omega, ?_⟩
        refine (gcO n can fs many full _).trans ?_
        rw [set_take P (-1) (by omega), List.append_assoc]
        rfl
    · rw [hb, if_pos rfl] at hsol
      have hF5 : fs[hut]? = some fs[hut] := List.getElem?_eq_getElem (by omega)
      have hFd : fs.getD hut 0 = fs[hut] := by rw [List.getD_eq_getElem?_getD, hF5]; rfl
      have hF8 := hfb _ (List.getElem_mem (show hut < fs.length by omega))
      have hu5 : (hut : Int) < 5 := by omega
      rw [hFd] at hsol
      generalize fs[hut] = F at *
      have ih := fun full P h1 h2 h3 => on_ok n can fs many left hn hc hlf hfl hfb l (hut + 1) full P (by omega) h1 h2 h3
      simp only [go_sem, Nat.reduceEqDiff, Bool.not_true, Int.reduceNeg, hu5, Nat.mul_one, List.getElem?_map, hF5, Option.map_some]
      refine awpL_loopK F.toNat (fun j st => ∃ Q : List Int, Q.length = n ∧ Q.take hut = P.take hut ∧ (∀ i < j, (if ((full.getD i 0 : Nat) : Int) = many then none else (solve can fs many left l (hut + 1) (full.set i (full.getD i 0 + 1))).map fun q => (i : Int) :: q) = none) ∧
        st = { env := [(34, .t (vi j)), (33, .t (vi F)), (0, .t (vi hut)), (1, .t (vi left)), (2, .vp [.loc 2 n] 0), (4, .ptr 0 0), (6, .ptr 1 0), (7, .t (.ptr (.agg [vi many]) 0))], σ := σO n can fs many full Q }) ⟨_, Sub.gc [0, 1, 2] [34, 33, 0, 1, 2, 4, 6, 7] rfl rfl, P.set hut (-1), by simpa using hP, by rw [List.take_set_of_le (Nat.le_refl _)], by simp, St.gc_mk rfl (gcO n can fs many full _) rfl rfl⟩ ?_
      rintro j st hj ⟨Q, hQ, hQP, hno, rfl⟩
      unfold σO
      simp only [go_sem, Nat.reduceEqDiff]
      cases g : decide ((j : Int) < F)
      · have hje : j = F.toNat := by have := of_decide_eq_false g; omega
        have hn0 := findSome_range_none (hje ▸ hno)
        rw [hn0] at hsol
        rw [hsol]
        simp only [go_sem, Nat.reduceAdd]
        refine finL_ret [0, 1, 2] ⟨rfl, rfl, rfl, rfl, _, rfl, rfl, Q.drop hut, by rw [List.length_drop]; omega, ?_⟩
        refine (gcO n can fs many full Q).trans ?_
        rw [← hQP, List.take_append_drop]
      have hjF : (j : Int) < F := of_decide_eq_true g
      have hjl : j < F.toNat := by omega
      have hj8 : (j : Int) < 8 := by omega
      have hx : full[j]? = some full[j] := List.getElem?_eq_getElem (by omega)
      have hxd : full.getD j 0 = full[j] := by rw [List.getD_eq_getElem?_getD, hx]; rfl
      have hxb := hFb _ (List.getElem_mem (show j < full.length by omega))
      have hwj : IntKind.i64.wrap ((j : Int) + 1) = ((j + 1 : Nat) : Int) := by rw [wrap_id (by omega) (by omega)]; omega
      have hno' : ∀ v, (if ((full.getD j 0 : Nat) : Int) = many then none else (solve can fs many left l (hut + 1) (full.set j (full.getD j 0 + 1))).map fun q => (j : Int) :: q) = none → ∀ i < j + 1, (if ((full.getD i 0 : Nat) : Int) = many then none else (solve can fs many left l (hut + 1) (full.set i (full.getD i 0 + 1))).map fun q => (i : Int) :: q) = v → v = none := fun v h i hi e => by
        by_cases c : i < j
        · rw [← e]; exact hno i c
        · have : i = j := by omega
          subst this
          rw [← e]; exact h
      rw [hxd] at hno'
      generalize hxx : full[j] = x at *
      simp only [go_sem, Nat.reduceEqDiff, hj8, Nat.mul_one, List.getElem?_map, hx, Option.map_some]
      cases hm : ((x : Int) == many)
      rotate_left
      · have hme : (x : Int) = many := eq_of_beq hm
        simp only [go_sem, Nat.reduceEqDiff, Nat.reduceAdd, hwj]
        refine ⟨hjl, _, Sub.gc [0, 1, 2] [34, 33, 0, 1, 2, 4, 6, 7] rfl rfl, Q, hQ, hQP, fun i hi => hno' _ (by rw [if_pos hme]) i hi rfl, St.gc_mk rfl (gcO n can fs many full Q) rfl rfl⟩
      have hmn : ¬ (x : Int) = many := fun e => by rw [e] at hm; simp at hm
      rw [if_neg hmn] at hno'
      have hwx : IntKind.i64.wrap ((x : Int) + 1) = ((x + 1 : Nat) : Int) := by rw [wrap_id (by omega) (by omega)]; omega
      have hq : Q[hut]? = some Q[hut] := List.getElem?_eq_getElem (by omega)
      have hsp : ∀ (fl : List Nat) (v : Nat), j < fl.length → List.take j ((fl.map fun z : Nat => vi z).map E.t) ++ [E.t (vi v)] ++ List.drop (j + 1) ((fl.map fun z : Nat => vi z).map E.t) = ((fl.set j v).map fun z : Nat => vi z).map E.t := fun fl v hl => by
        rw [List.set_eq_take_append_cons_drop, if_pos hl]
        simp [List.map_take, List.map_drop]
      have hj18 : (j + 1 ≤ 8) = True := by simp; omega
      have s1 := hsp full (x + 1) (by omega)
      have s2 := hsp (full.set j (x + 1)) x (by rw [List.length_set]; omega)
      rw [List.set_set] at s2
      have hsb := set_back full (x + 1) hx
      rw [List.set_set] at hsb
      rw [hsb] at s2
      have hl2 : (full.set j (x + 1)).length = 8 := by rw [List.length_set]; exact hF
      have hb2 : ∀ y ∈ full.set j (x + 1), y ≤ hut + 1 := fun y hy => by
        rcases List.mem_or_eq_of_mem_set hy with h | h
        · have := hFb y h; omega
        · omega
      have hx2 : (full.set j (x + 1))[j]? = some (x + 1) := List.getElem?_set_self (by omega)
      have hwy : IntKind.i64.wrap (((x + 1 : Nat) : Int) - 1) = (x : Int) := by rw [wrap_id (by omega) (by omega)]; omega
      have ih := ih (full.set j (x + 1)) (Q.set hut j) (by simpa using hQ) hl2 hb2
      generalize Q[hut] = q0 at *
      simp only [go_sem, Nat.reduceEqDiff, Bool.not_false, undef, undef, hj8, Nat.mul_one, List.getElem?_map, hx, Option.map_some, hwx, List.length_map, hF, hj18, s1, hQ, hhn, hq, hset, hw]
      unfold capO σO at ih
      refine ACallL.of ih ?_
      intro o σ' h
      cases hr : solve can fs many left l (hut + 1) (full.set j (x + 1)) with
      | some q =>
        rw [hr] at h
        obtain ⟨rfl, full', hf', rfl⟩ := (h : _ ∧ _)
        have hat := findSome_range_at hno (show _ = some ((j : Int) :: q) by rw [hxd, if_neg hmn, hr]; rfl) hjl
        rw [hat] at hsol
        rw [hsol]
        simp only [σO, go_sem, Nat.reduceEqDiff, Nat.reduceAdd]
        refine finL_ret [0, 1, 2] ⟨rfl, rfl, rfl, rfl, _, rfl, rfl, full', hf', ?_⟩
        refine (gcO n can fs many full' _).trans ?_
        rw [set_take Q j (by omega), hQP, List.append_assoc]
        rfl
      | none =>
        rw [hr] at h hno'
        obtain ⟨rfl, X, hX, rfl⟩ := (h : _ ∧ _)
        simp only [σO, go_sem, Nat.reduceEqDiff, undef, undef, hj8, Nat.mul_one, List.getElem?_map, hx2, Option.map_some, hwy, List.length_map, hl2, hj18, s2, hwj]
        refine ⟨hjl, _, Sub.gc [0, 1, 2] [34, 33, 0, 1, 2, 4, 6, 7] rfl rfl, (Q.set hut j).take (hut + 1) ++ X, ?_, ?_, fun i hi => hno' _ rfl i hi rfl, St.gc_mk rfl (gcO n can fs many full _) rfl rfl⟩
        · rw [List.length_append, List.length_take, List.length_set]; omega
        · rw [set_take Q j (by omega), List.append_assoc, List.take_append_of_le_length (by rw [List.length_take]; omega), List.take_take, Nat.min_self, hQP]
open Go Go.Ab
def p1 (n : Nat) : Nat := (n / 2 &&& 85) + (n &&& 85)
def p2 (n : Nat) : Nat := (n / 4 &&& 51) + (n &&& 51)
def p3 (n : Nat) : Nat := (n / 16 + n) &&& 15
theorem p1_ok : ∀ n : Nat, n < 256 → IntKind.u64.wrap (bits .and .u64 ((n : Int).fdiv (2 ^ min 1 64)) 6148914691236517205 + bits .and .u64 (n : Int) 6148914691236517205) = (p1 n : Int) := dec7 (by decide +kernel)
theorem p2_ok : ∀ n : Nat, n < 256 → IntKind.u64.wrap (bits .and .u64 ((n : Int).fdiv (2 ^ min 2 64)) 3689348814741910323 + bits .and .u64 (n : Int) 3689348814741910323) = (p2 n : Int) := dec7 (by decide +kernel)
theorem p3_ok : ∀ n : Nat, n < 69 → bits .and .u64 (IntKind.u64.wrap ((n : Int).fdiv (2 ^ min 4 64) + (n : Int))) 1085102592571150095 = (p3 n : Int) := dec7 (by decide +kernel)
theorem p4_ok : ∀ n : Nat, n < 69 → bits .and .i64 (IntKind.i64.wrap (IntKind.u64.wrap (IntKind.u64.wrap (IntKind.u64.wrap ((n : Int) + (n : Int).fdiv (2 ^ min 8 64)) + (IntKind.u64.wrap ((n : Int) + (n : Int).fdiv (2 ^ min 8 64))).fdiv (2 ^ min 16 64)) + (IntKind.u64.wrap (IntKind.u64.wrap ((n : Int) + (n : Int).fdiv (2 ^ min 8 64)) + (IntKind.u64.wrap ((n : Int) + (n : Int).fdiv (2 ^ min 8 64))).fdiv (2 ^ min 16 64))).fdiv (2 ^ min 32 64)))) 127 = (n : Int) := dec7 (by decide +kernel)
theorem p5_ok : ∀ n : Nat, n < 256 → p1 n < 256 ∧ p2 (p1 n) < 69 ∧ p3 (p2 (p1 n)) < 69 ∧ p3 (p2 (p1 n)) = size n := dec7 (by decide +kernel)
theorem ones64_ok (n : Nat) (hn : n < 256) : ACall Tryz.prog 100 [.t (.lit (.int .u64 n))] [] (ret (vi (size n))) := by
  refine ACall.walk k100 ?_
  unfold c100
  have n1 : ¬ ((1 : Int) < 0) := by omega
  simp only [go_sem, Nat.reduceEqDiff, Int.reduceToNat, Int.reduceLT]
  refine finL_ret [] ⟨rfl, rfl, rfl, rfl, _, rfl, res_mk (congrArg (fun x => Out.ret (.t (vi x))) ?_)⟩
  obtain ⟨h1, h2, h3, h4⟩ := p5_ok n hn
  rw [p1_ok n hn, p2_ok _ h1, p3_ok _ h2]
  exact (p4_ok _ h3).trans (congrArg Int.ofNat h4)
theorem ones_ok (n : Nat) (hn : n < 256) : ACall Tryz.prog 74 [.t (.lit (.int .u64 n))] [] (ret (vi (size n))) := by
  refine ACall.walk k74 ?_
  unfold c74
  simp only [go_sem, Nat.reduceEqDiff]
  refine ACallL.quiet1 (ones64_ok n hn) rfl rfl rfl ?_
  simp only [go_sem, Nat.reduceEqDiff]
  exact finL_ret [] ⟨rfl, rfl, rfl, rfl, _, rfl, res_mk rfl⟩
def fstH (s : Su) (i : Nat) : Int := firstS s (s.huts.getD i ⟨0, 0, 0⟩)
def fsA (s : Su) (j : Nat) : List Int := (List.range 5).map fun i => if i < j then fstH s i else 0
def fsN (s : Su) : List Int := fsA s s.huts.length
def canW (s : Su) (j : Nat) : Nat := maskOf (fun i => decide (fstH s i ≥ 0)) j
def canN (s : Su) : Nat := canW s s.huts.length
def zer8 : List Nat := [0, 0, 0, 0, 0, 0, 0, 0]
def solN (s : Su) (many : Int) (left : Nat) : Option (List Int) := solve (canN s) (fsN s) many left s.huts.length 0 zer8
def saveP (s : Su) (many : Int) (sz set : Nat) : Option (List Int × Nat) := if size set = sz ∧ ndiff set (canN s) = 0 then (solN s many set).map fun l => (l, set) else none
def saveF (s : Su) (many : Int) : Option (List Int × Nat) := (List.range (s.huts.length + 1)).findSome? fun sz => (List.range (2 ^ s.huts.length)).findSome? fun set => saveP s many sz set
def saveT (r : Option (List Int × Nat)) : T × Int := match r with
  | some (l, set) => (.slice 1 (l.map fun z : Int => vi z), (set : Nat))
  | none => (.lit (.slice none 0 0), 0)
def specSave (s : Su) (many : Int) : Out := if s.ok then (if wI many 0 5 then .ret (.tup [.t (saveT (saveF s many)).1, .t (vi (saveT (saveF s many)).2), .t (vi 0)]) else .ret (.tup [.t (.lit (.slice none 0 0)), .t (vi 0), .t (vi 2)])) else .ret (.tup [.t (.lit (.slice none 0 0)), .t (vi 0), .t (vi 1)])
theorem first_rng (s : Su) (hs : s.OK) (h : Hu) : -1 ≤ firstS s h ∧ firstS s h ≤ 7 := by
  have hnw := hs.nw
  unfold firstS
  cases hf : (talsS s h).findIdx? (·.1) with
  | none => simp
  | some i =>
    have := (List.findIdx?_eq_some_iff_getElem.1 hf).1
    have hl : (talsS s h).length = s.water.length := by simp [talsS]
    simp only
    omega
theorem fsA_len (s : Su) (j : Nat) : (fsA s j).length = 5 := by simp [fsA]
theorem fsA_set (s : Su) {j : Nat} (hj : j < 5) : (fsA s j).set j (fstH s j) = fsA s (j + 1) := by
  apply List.ext_getElem?
  intro i
  by_cases e : j = i
  · subst e
    rw [List.getElem?_set_self (by rw [fsA_len]; exact hj)]
    unfold fsA
    rw [List.getElem?_map, List.getElem?_range hj, Option.map_some, if_pos (by omega)]
  · rw [List.getElem?_set_ne e]
    unfold fsA
    rw [List.getElem?_map, List.getElem?_map]
    by_cases hi : i < 5
    · rw [List.getElem?_range hi, Option.map_some, Option.map_some]
      by_cases c : i < j
      · rw [if_pos c, if_pos (by omega)]
      · rw [if_neg c, if_neg (by omega)]
    · rw [List.getElem?_eq_none (l := List.range 5) (by simp; omega)]; rfl
theorem fsA_le (s : Su) (hs : s.OK) (j : Nat) : ∀ x ∈ fsA s j, x ≤ 8 := by
  intro x hx
  unfold fsA at hx
  obtain ⟨i, _, rfl⟩ := List.mem_map.1 hx
  split
  · have := (first_rng s hs (s.huts.getD i ⟨0, 0, 0⟩)).2
    unfold fstH
    omega
  · omega
theorem hut_get {s : Su} {j : Nat} (hj : j < s.huts.length) : s.huts[j]? = some (s.huts.getD j ⟨0, 0, 0⟩) := by
  rw [List.getD_eq_getElem?_getD, List.getElem?_eq_getElem hj]; rfl
def SvMid (s : Su) (many : Int) (st : St) : Prop := (s.OK ∧ 0 ≤ many ∧ many ≤ 5) ∧ lk st.env 2 = .t (.ptr (.agg (su5 s)) 0) ∧ lk st.env 3 = .t (.ptr (.agg [vi many]) 0) ∧ lk st.env 6 = .ptr 0 0 ∧ lk st.env 8 = .ptr 2 0 ∧ lk st.env 9 = .ptr 3 0 ∧
  (∃ a : AO, st.σ = [.cells [.t (vi 0)], a, .cells (((fsN s).map fun z : Int => vi z).map .t), .cells [.t (vi (canN s : Nat))]]) ∧ st.df = [.call 38 [.ptr 0 0]] ∧ st.k = 0
theorem solve_len (can : Nat) (fs : List Int) (many : Int) (left : Nat) : ∀ (l hut : Nat) (full : List Nat) {q : List Int}, solve can fs many left l hut full = some q → q.length = l
  | 0, _, _, q, h => by cases h; rfl
  | l + 1, hut, full, q, h => by
    unfold solve at h
    split at h
    · obtain ⟨i, _, hi⟩ := List.exists_of_findSome?_eq_some h
      split at hi
      · cases hi
      · obtain ⟨r, hr, rfl⟩ := Option.map_eq_some_iff.1 hi
        rw [List.length_cons, solve_len can fs many left l _ _ hr]
    · obtain ⟨r, hr, rfl⟩ := Option.map_eq_some_iff.1 h
      rw [List.length_cons, solve_len can fs many left l _ _ hr]
def capP (n can : Nat) (fs : List Int) (many : Int) : List E := [.vp [.loc 3 n] 0, .t (.ptr (.agg [vi can]) 0), .ptr 1 0, .t (.ptr (.agg (fs.map fun z : Int => vi z)) 0), .ptr 2 0, .t (.ptr (.agg [vi many]) 0)]
def σP (n can : Nat) (fs : List Int) (many : Int) (full : List Nat) (P : List Int) : List AO := [.cells [.t (vi 0)], .cells [.fn (.func 73) [] (capP n can fs many)], .cells ((full.map fun z : Nat => vi z).map .t), .row 1 ((P.map fun z : Int => vi z).map .t)]
theorem gcP (n can : Nat) (fs : List Int) (many : Int) (full : List Nat) (P : List Int) : σgc [0, 1, 2, 3] (σP n can fs many full P) 12 = σP n can fs many full P := by
  show [AO.cells _, AO.cells _, AO.cells ((List.map E.t _).map (E.gc _ _ _)), AO.row 1 ((List.map E.t _).map (E.gc _ _ _))] = _
  rw [gc_row, gc_row]
  rfl
theorem lendOn {n can : Nat} {fs : List Int} {many : Int} {left : Nat} {full : List Nat} {P : List Int} {r : Option (List Int)} (h : ACall Tryz.prog 73 (.t (vi 0) :: .t (vi left) :: capO n can fs many) (σO n can fs many full P) (onR n can fs many full P 0 r))
    {R : Lz (Out → List AO → Prop)} (h1 : ∀ q full', r = some q → R.get (.ret (.t (vb true))) (σP n can fs many full' q)) (h2 : ∀ X : List Int, r = none → X.length = n → R.get (.ret (.t (vb false))) (σP n can fs many full X)) :
    @ACallL Tryz.prog 73 (.t (vi 0) :: .t (vi left) :: capP n can fs many) (σP n can fs many full P) R := by
  have es : ∀ (ρ : Nat → Nat) (l : List T), E.rens ρ (l.map .t) = l.map .t := fun ρ l => by rw [E.rens_map, List.map_map]; rfl
  have hren : ∀ full P, (σO n can fs many full P).map (AO.ren (lendR [1, 2, 3] 4)) = [.cells [.fn (.func 73) [] (capP n can fs many)], .cells ((full.map fun z : Nat => vi z).map .t), .row 1 ((P.map fun z : Int => vi z).map .t)] := fun full P => by
    show [AO.cells _, AO.cells (E.rens _ (List.map E.t _)), AO.row 1 (E.rens _ (List.map E.t _))] = _
    rw [es, es]
    rfl
  refine ACall.mono (ACall.lend [1, 2, 3] h (by decide) (fun k hk => ?_) rfl (fun j o ho => ?_) rfl) ?_
  · show k < 4
    simp at hk; omega
  · have hj : j < 3 := (List.getElem?_eq_some_iff.1 ho).1
    have h0 := congrArg (fun l : List AO => l[j]?) (hren full P)
    simp only [List.getElem?_map, ho, Option.map_some] at h0
    show (σP n can fs many full P)[lendR [1, 2, 3] 4 j]? = some (o.ren (lendR [1, 2, 3] 4))
    rw [h0]
    have : j = 0 ∨ j = 1 ∨ j = 2 := by omega
    rcases this with rfl | rfl | rfl <;> rfl
  · rintro o σ1 ⟨o0, σ0, hR, _, rfl, rfl⟩
    cases hr : r with
    | some q =>
      rw [hr] at hR
      obtain ⟨rfl, full', hf', rfl⟩ := (hR : _ ∧ _)
      have := h1 q full' hr
      rw [show (σP n can fs many full P).length = 4 from rfl, hren]
      exact this
    | none =>
      rw [hr] at hR
      obtain ⟨rfl, X, hX, rfl⟩ := (hR : _ ∧ _)
      have := h2 X hr (by omega)
      rw [show (σP n can fs many full P).length = 4 from rfl, hren]
      exact this
theorem gcOn (n : Nat) (can : Nat) (fs : List Int) (many : Int) (a o : AO) (z : AO) (C D : AO) : E.gc [0, 7, 6, 4] [z, a, .cells ((fs.map fun z : Int => vi z).map .t), .cells [.t (vi can)], C, .cells [.loc 4 n], D, o] 12 (.fn (.func 73) [] [.ptr 5 0, .ptr 3 0, .ptr 7 0, .ptr 2 0, .ptr 6 0, .t (.ptr (.agg [vi many]) 0)]) = .fn (.func 73) [] (capP n can fs many) := by
  rw [E.gc]
  simp only [List.map_cons, List.map_nil]
  rw [gc_ptr (id := 2) (n := 9) (off := 0) (ts := fs.map fun z : Int => vi z) rfl rfl]
  rfl
def saveRow (s : Su) (many : Int) : Out → List AO → Prop := fun o σ => o.gc [] σ = specSave s many ∧ ∀ l a, s.ok = true → wI many 0 5 = true → saveF s many = some (l, a) → o = .ret (.tup [.loc 0 l.length, .t (vi a), .t (vi 0)]) ∧ σ = [.row 1 ((l.map fun z : Int => vi z).map .t)]
set_option maxRecDepth 8000 in
set_option maxHeartbeats 8000000 in
theorem Save_own (s : Su) (hl : Lens s) (many : Int) : ACall Tryz.prog 45 [.t (.agg (su5 s)), .t (vi many)] [] (saveRow s many) := by
  refine ACall.walkD k45 ?_
  unfold c45
  refine awpL_chop 6 (c1 := ?a1) (c2 := ?a2) (SvMid s many) ?hc ?_ ?_
  case hc => simp only [chop]; rfl
  · unfold su5
    simp only [go_sem, Nat.reduceEqDiff, Nat.reduceAdd]
    refine ACallL.quiet1 (within_ok _ _ _) rfl rfl rfl ?_
    simp only [go_sem, Nat.reduceEqDiff, Nat.reduceAdd]
    refine openL s _ hl (fun hok => ?_) (fun hok h2 => ?_) (fun hok h2 => ?_)
    · simp only [go_sem, Nat.reduceEqDiff]
      refine finDL_pan rfl rfl ((answer_pan rfl).mono fun σ' h => ?_)
      subst h
      exact ⟨_, rfl, [], rfl, rfl, by simp only [specSave, hok]; rfl, fun l a h _ _ => by rw [hok] at h; cases h⟩
    · simp only [go_sem, Nat.reduceEqDiff]
      refine finDL_pan rfl rfl ((answer_pan rfl).mono fun σ' h => ?_)
      subst h
      exact ⟨_, rfl, [], rfl, rfl, by simp only [specSave, hok, h2]; rfl, fun l a _ h _ => by rw [h2] at h; cases h⟩
    have hs := (s.ok_iff).1 hok
    have hnh := hs.nh
    have hmy : 0 ≤ many ∧ many ≤ 5 := by simpa [wI] using h2
    simp only [go_sem, Nat.reduceEqDiff, Nat.reduceAdd, undef, undef, List.length_map]
    refine awpL_for (i := 25) (L := 24) s.huts.length (fun j st => ∃ ks xs clk, MapOK s ks xs ∧ st = { env := [(25, .t (vi j)), (24, .t (vi s.huts.length)), (23, .t (.slice 3 (s.huts.map tHu))), (2, .t (.ptr (.agg (su5 s)) 0)), (3, .t (.ptr (.agg [vi many]) 0)), (6, .ptr 0 0), (7, seaE s 1), (8, .ptr 2 0), (9, .ptr 3 0)], σ := [.cells [.t (vi 0)], .map shN ks xs clk, .cells (((fsA s j).map fun z : Int => vi z).map .t), .cells [.t (vi (canW s j : Nat))]], df := [.call 38 [.ptr 0 0]] }) ?_ ⟨_, Sub.gc [2, 3, 4, 5] [25, 24, 23, 2, 3, 6, 7, 8, 9] rfl rfl, [], [], 0, MapOK.nil s, rfl⟩ ?_ ?_
    · rintro k st ⟨_, _, _, _, rfl⟩; exact ⟨rfl, rfl⟩
    · rintro j st hj ⟨ks, xs, clk, M, rfl⟩
      have hwj : IntKind.i64.wrap ((j : Int) + 1) = ((j + 1 : Nat) : Int) := by rw [wrap_id (by omega) (by omega)]; omega
      have hg := hut_get hj
      have hh := hs.huts _ (List.mem_of_getElem? hg)
      have h62 := first_ok s hs _ hh M (clk := clk)
      have hfe : firstS s (s.huts.getD j ⟨0, 0, 0⟩) = fstH s j := rfl
      rw [hfe] at h62
      have hset := fsA_set s (j := j) (by omega)
      have hlen := fsA_len s j
      have hlen2 := fsA_len s (j + 1)
      have hcs : canW s (j + 1) = if decide (fstH s j ≥ 0) then canW s j ||| 2 ^ j else canW s j := rfl
      have hcl : canW s j < 2 ^ j := maskOf_lt _ _
      have hp : 2 ^ j ≤ 16 := Nat.pow_le_pow_right (n := 2) (j := 4) (by decide) (by omega)
      have o1 := bits_or (a := canW s j) (b := 2 ^ j) (by omega) (by omega)
      have sl := shl_one (i := j) (by omega)
      have hj0 : ((j : Int) < 0) = False := by simp
      have hj5 : (j : Int) < 5 := by omega
      have hj15 : (j + 1 ≤ 5) = True := by simp; omega
      have hsp : List.take j (((fsA s j).map fun z : Int => vi z).map E.t) ++ [E.t (vi (fstH s j))] ++ List.drop (j + 1) (((fsA s j).map fun z : Int => vi z).map E.t) = (((fsA s (j + 1)).map fun z : Int => vi z).map E.t) := by
        rw [← hset, List.set_eq_take_append_cons_drop, if_pos (by omega)]
        simp [List.map_take, List.map_drop]
      have hat : (fsA s (j + 1))[j]? = some (fstH s j) := by
        unfold fsA
        rw [List.getElem?_map, List.getElem?_range (by omega), Option.map_some, if_pos (by omega)]
      generalize s.huts.getD j ⟨0, 0, 0⟩ = hu at *
      generalize fsA s j = A at *
      generalize fsA s (j + 1) = A2 at *
      generalize fstH s j = fj at *
      obtain ⟨f, b, r⟩ := hu
      simp only [tHu] at h62
      simp only [su5, go_sem, Nat.reduceEqDiff, Nat.reduceAdd, undef, undef, List.getElem?_map, hg, Option.map_some, tHu]
      refine lend1 (m := 1) h62 rfl rfl rfl ?_
      rintro o a ⟨rfl, ks2, xs2, clk2, M2, rfl⟩
      simp only [go_sem, Nat.reduceEqDiff, undef, undef, Out.ren, E.ren, AO.ren, hj5, Nat.mul_one, List.length_map, hlen, hj15, hsp, List.getElem?_map, hat, Option.map_some]
      cases hc : decide (fj ≥ 0)
      · rw [hc, if_neg (by simp)] at hcs
        simp only [go_sem, Nat.reduceEqDiff, hwj]
        refine ⟨_, Sub.gc [0, 1, 2, 3] [25, 24, 23, 2, 3, 6, 7, 8, 9] rfl rfl, ks2, xs2, clk2, M2, ?_⟩
        rw [hcs]
        exact St.gc_mk rfl (by show [AO.cells _, AO.map _ _ _ _, AO.cells ((List.map E.t _).map (E.gc _ _ _)), AO.cells _] = _; rw [gc_row]; rfl) rfl rfl
      · rw [hc, if_pos rfl] at hcs
        simp only [go_sem, Nat.reduceEqDiff, undef, undef, hwj, sl, o1, hj0]
        refine ⟨_, Sub.gc [0, 1, 2, 3] [25, 24, 23, 2, 3, 6, 7, 8, 9] rfl rfl, ks2, xs2, clk2, M2, ?_⟩
        rw [hcs]
        exact St.gc_mk rfl (by show [AO.cells _, AO.map _ _ _ _, AO.cells ((List.map E.t _).map (E.gc _ _ _)), AO.cells _] = _; rw [gc_row]; rfl) rfl rfl
    · rintro st ⟨ks, xs, clk, M, rfl⟩
      simp only [go_sem]
      exact ⟨⟨hs, hmy.1, hmy.2⟩, rfl, rfl, rfl, rfl, rfl, ⟨_, rfl⟩, rfl, rfl⟩
  rintro ⟨env, σ, df, k⟩ ⟨⟨hs, hm0, hm5⟩, q2, q3, q6, q8, q9, ⟨a, hσ⟩, hdf, hk⟩
  simp only at q2 q3 q6 q8 q9 hσ hdf hk
  subst hσ hdf hk
  simp only [su5, go_sem, Nat.reduceEqDiff, Nat.reduceAdd, undef, undef, q2, q3, q8, q9, List.length_map]
  have hnh := hs.nh
  have hsp : specSave s many = .ret (.tup [.t (saveT (saveF s many)).1, .t (vi (saveT (saveF s many)).2), .t (vi 0)]) := by
    have h1 : s.ok = true := (s.ok_iff).2 hs
    have h2 : wI many 0 5 = true := by simp [wI]; omega
    simp only [specSave, h1, h2]; rfl
  unfold saveRow
  rw [hsp]
  have hcl : canN s < 2 ^ s.huts.length := maskOf_lt _ _
  have hpn : 2 ^ s.huts.length ≤ 32 := Nat.pow_le_pow_right (n := 2) (j := 5) (by decide) (by omega)
  have hfl := fsA_len s s.huts.length
  have hfb := fsA_le s hs s.huts.length
  have hSF : saveF s many = (List.range (s.huts.length + 1)).findSome? fun sz => (List.range (2 ^ s.huts.length)).findSome? fun set => saveP s many sz set := rfl
  have hSP : ∀ sz set, saveP s many sz set = if size set = sz ∧ ndiff set (canN s) = 0 then (solve (canN s) (fsN s) many set s.huts.length 0 zer8).map fun l => (l, set) else none := fun _ _ => rfl
  have hfl : (fsN s).length = 5 := hfl
  have hfb : ∀ x ∈ fsN s, x ≤ 8 := hfb
  have hw1 : IntKind.i64.wrap ((s.huts.length : Int) + 1) = ((s.huts.length + 1 : Nat) : Int) := by rw [wrap_id (by omega) (by omega)]; omega
  have sl := shl_one (i := s.huts.length) (by omega)
  have hn0 : ((s.huts.length : Int) < 0) = False := by simp
  generalize saveF s many = SF at *
  generalize hnn : s.huts.length = n at *
  generalize canN s = can at *
  generalize fsN s = fs at *
  generalize saveP s many = SP at *
  have hon := fun set (hset : set < 256) P (hP : P.length = n) => on_ok n can fs many set hnh (by omega) hset hfl hfb n 0 zer8 P (by omega) hP rfl (by decide)
  refine ⟨⟨by omega, by omega, by omega⟩, ?_⟩
  simp only [go_sem, Nat.reduceEqDiff, List.length_replicate, hw1]
  refine awpL_for (i := 53) (L := 52) (n + 1) (fun sz st => (∀ k < sz, ((List.range (2 ^ n)).findSome? fun set => SP k set) = none) ∧ ∃ P : List Int, P.length = n ∧ st = { env := [(53, .t (vi sz)), (52, .t (vi (n + 1 : Nat))), (6, .ptr 0 0), (9, .t (.ptr (.agg [vi can]) 0)), (12, .vp [.loc 3 n] 0), (14, .ptr 1 0)], σ := σP n can fs many zer8 P, df := [.call 38 [.ptr 0 0]] }) ?_ ⟨_, Sub.gc [0, 7, 6, 4] [53, 52, 6, 9, 12, 14] rfl rfl, by simp, List.replicate n 0, by simp, ?_⟩ ?_ ?_
  · rintro k st ⟨_, _, _, rfl⟩; exact ⟨rfl, rfl⟩
  · refine St.gc_mk (by simp only [List.map_cons, List.map_nil, lk, Nat.reduceEqDiff, reduceIte, q6, q9]; rfl) ?_ rfl rfl
    show [AO.cells _, AO.cells [E.gc _ _ _ _], AO.cells _, AO.row 1 ((List.replicate _ _).map (E.gc _ _ _))] = _
    rw [gcOn, List.map_replicate]
    unfold σP
    rw [List.map_replicate, List.map_replicate]
    rfl
  · rintro sz st hsz ⟨hno, P, hP, rfl⟩
    have hwz : IntKind.i64.wrap ((sz : Int) + 1) = ((sz + 1 : Nat) : Int) := by rw [wrap_id (by omega) (by omega)]; omega
    simp only [σP, go_sem, Nat.reduceEqDiff, rowLen, AO.len?, List.length_map, hP, sl, hn0]
    refine awpL_for (i := 59) (L := 58) (2 ^ n) (fun set st => (∀ k < set, SP sz k = none) ∧ ∃ P : List Int, P.length = n ∧ st = { env := [(59, .t (vi set)), (58, .t (vi (2 ^ n : Nat))), (15, .t (vi sz)), (53, .t (vi sz)), (52, .t (vi (n + 1 : Nat))), (6, .ptr 0 0), (9, .t (.ptr (.agg [vi can]) 0)), (12, .vp [.loc 3 n] 0), (14, .ptr 1 0)], σ := σP n can fs many zer8 P, df := [.call 38 [.ptr 0 0]] }) ?_ ⟨_, Sub.gc [0, 1, 2, 3] [59, 58, 15, 53, 52, 6, 9, 12, 14] rfl rfl, by simp, P, hP, St.gc_mk rfl (gcP n can fs many zer8 P) rfl rfl⟩ ?_ ?_
    · rintro k st ⟨_, _, _, rfl⟩; exact ⟨rfl, rfl⟩
    · rintro set st hset ⟨hno2, P, hP, rfl⟩
      have hws : IntKind.i64.wrap ((set : Int) + 1) = ((set + 1 : Nat) : Int) := by rw [wrap_id (by omega) (by omega)]; omega
      have hwu : IntKind.u64.wrap (set : Int) = set := u64_nat (by omega)
      have hon := hon set (by omega) P hP
      have h74 := ones_ok set (by omega)
      have han := bits_andNot (a := set) (b := can) (by omega) (by omega)
      have hSP := hSP sz set
      have hno3 : SP sz set = none → ∀ k < set + 1, SP sz k = none := fun h k hk => by
        by_cases c : k < set
        · exact hno2 k c
        · rw [show k = set by omega]; exact h
      simp only [σP, go_sem, Nat.reduceEqDiff, hwu]
      refine ACallL.quiet1 h74 rfl rfl rfl ?_
      cases h1 : (((size set : Nat) : Int) != (sz : Int))
      rotate_left
      · have : ¬ size set = sz := fun e => by rw [e] at h1; simp at h1
        rw [if_neg (fun h => this h.1)] at hSP
        simp only [go_sem, Nat.reduceEqDiff, Bool.not_true, undef, undef, h1, hws]
        exact ⟨_, Sub.gc [0, 1, 2, 3] [59, 58, 15, 53, 52, 6, 9, 12, 14] rfl rfl, hno3 hSP, P, hP, St.gc_mk rfl (gcP n can fs many zer8 P) rfl rfl⟩
      have e1 : size set = sz := by have := bne_eq_false_iff_eq.1 h1; omega
      simp only [go_sem, Nat.reduceEqDiff, beq_self_eq_true, h1, han]
      cases h2 : (((ndiff set can : Nat) : Int) != 0)
      rotate_left
      · have : ¬ ndiff set can = 0 := fun e => by rw [e] at h2; simp at h2
        rw [if_neg (fun h => this h.2)] at hSP
        simp only [go_sem, Nat.reduceEqDiff, Bool.not_true, undef, undef, hws]
        exact ⟨_, Sub.gc [0, 1, 2, 3] [59, 58, 15, 53, 52, 6, 9, 12, 14] rfl rfl, hno3 hSP, P, hP, St.gc_mk rfl (gcP n can fs many zer8 P) rfl rfl⟩
      have e2 : ndiff set can = 0 := by have := bne_eq_false_iff_eq.1 h2; omega
      rw [if_pos ⟨e1, e2⟩] at hSP
      simp only [go_sem, Nat.reduceEqDiff, Bool.not_false, beq_self_eq_true]
      refine lendOn hon (fun q full' hr => ?_) (fun X hr hX => ?_)
      · rw [hr, Option.map_some] at hSP
        have hq : q.length = n := solve_len _ _ _ _ _ _ _ hr
        have hat := findSome_range_at hno2 hSP hset
        have hat2 := findSome_range_at hno hat hsz
        rw [hat2] at hSF
        rw [hSF]
        have hdr : List.drop n (List.replicate n (E.t (T.lit (Value.int IntKind.i64 0)))) = [] := by simp
        simp only [σP, go_sem, Nat.reduceEqDiff, Nat.reduceAdd, Bool.not_true, undef, beq_self_eq_true, undef, rowLen, AO.len?, List.length_map, hq, List.length_replicate, hdr]
        refine ⟨⟨by omega, by omega, by omega⟩, ?_⟩
        refine finDL_ret rfl rfl (answer_none.mono fun σ' h => ?_)
        subst h
        refine ⟨_, rfl, [4], rfl, rfl, ?_⟩
        show (Out.ret (.tup [.loc 0 n, _, _])).gc [] [AO.row 1 ((List.map E.t _).map (E.gc _ _ _))] = _ ∧ ∀ l a, _ → _ → _ → Out.ret (.tup [.loc 0 n, _, _]) = _ ∧ [AO.row 1 ((List.map E.t _).map (E.gc _ _ _))] = _
        rw [gc_row]
        refine ⟨?_, fun l a _ _ h => ?_⟩
        · show Out.ret (.tup [E.gc [] _ 11 (.loc 0 n), _, _]) = _
          rw [gc_loc (n := 9) (xs := q.map fun z : Int => vi z) rfl rfl (by simp [hq])]
          rfl
        · cases h
          rw [hq]
          exact ⟨rfl, rfl⟩
      · rw [hr, Option.map_none] at hSP
        simp only [σP, go_sem, Nat.reduceEqDiff, Bool.not_false, undef, beq_self_eq_true, undef, hws]
        exact ⟨_, Sub.gc [0, 1, 2, 3] [59, 58, 15, 53, 52, 6, 9, 12, 14] rfl rfl, hno3 hSP, X, hX, St.gc_mk rfl (gcP n can fs many zer8 X) rfl rfl⟩
    · rintro st ⟨hno2, P, hP, rfl⟩
      simp only [go_sem, Nat.reduceEqDiff, undef, undef, hwz]
      refine ⟨_, Sub.gc [0, 1, 2, 3] [53, 52, 6, 9, 12, 14] rfl rfl, fun k hk => ?_, P, hP, St.gc_mk rfl (gcP n can fs many zer8 P) rfl rfl⟩
      by_cases c : k < sz
      · exact hno k c
      · rw [show k = sz by omega]; exact findSome_range_none hno2
  · rintro st ⟨hno, P, hP, rfl⟩
    rw [findSome_range_none hno] at hSF
    rw [hSF]
    simp only [σP, go_sem, Nat.reduceEqDiff, undef, undef]
    refine finDL_ret rfl rfl (answer_none.mono fun σ' h => ?_)
    subst h
    exact ⟨_, rfl, [], rfl, rfl, rfl, fun l a _ _ h => by cases h⟩
theorem Save_ok (s : Su) (hl : Lens s) (many : Int) : ACall Tryz.prog 45 [.t (.agg (su5 s)), .t (vi many)] [] (res (specSave s many)) :=
  (Save_own s hl many).strike.mono fun o σ ⟨o0, σ0, h, e1, e2⟩ => ⟨by rw [e1, h.1], e2⟩
open Go Go.Ab
def smp : Su := { rows := 3, step := 2, water := [(3, 4), (5, 5), (6, 7), (4, 4)], waves := [(1, 1), (1, 2), (2, 3), (0, 1)], huts := [⟨6, 2, 0⟩, ⟨4, 1, 1⟩, ⟨9, 0, 2⟩] }
theorem rin_ok (n lo hi : Int) : ACall Tryz.prog 16 [.t (vi n), .t (vi lo), .t (vi hi)] [] (ret (vb (wI n lo hi))) := by
  refine ACall.walk k16 ?_
  unfold c16
  rw [wI_eq]
  simp only [go_sem, Nat.reduceEqDiff, Nat.reduceAdd]
  cases hA : decide (lo ≤ n)
  · simp only [go_sem, Nat.reduceEqDiff, undef]
    exact finL_ret [] ⟨rfl, rfl, rfl, rfl, _, rfl, res_mk rfl⟩
  · simp only [go_sem, Nat.reduceEqDiff]
    exact finL_ret [] ⟨rfl, rfl, rfl, rfl, _, rfl, res_mk rfl⟩
theorem rspan_ok (x : Sp) (high : Int) (hh : high ≤ 100) : ACall Tryz.prog 17 [.t (tSp x), .t (vi high)] [] (ret (vb (nearB x high))) := by
  refine ACall.walk k17 ?_
  unfold c17 tSp nearB
  obtain ⟨lo, hi⟩ := x
  simp only [go_sem, Nat.reduceEqDiff, Nat.reduceAdd, Nat.reduceLeDiff]
  cases h1 : decide (0 ≤ lo)
  · simp only [go_sem, Nat.reduceEqDiff, undef, undef]
    exact finL_ret [] ⟨rfl, rfl, rfl, rfl, _, rfl, res_mk rfl⟩
  simp only [go_sem, Nat.reduceEqDiff, Nat.reduceAdd, Nat.reduceLeDiff, beq_self_eq_true]
  cases h2 : decide (lo ≤ hi)
  · simp only [go_sem, Nat.reduceEqDiff, undef, undef]
    exact finL_ret [] ⟨rfl, rfl, rfl, rfl, _, rfl, res_mk rfl⟩
  have h1' := of_decide_eq_true h1
  have h2' := of_decide_eq_true h2
  simp only [go_sem, Nat.reduceEqDiff, Nat.reduceAdd, beq_self_eq_true]
  cases h3 : decide (hi ≤ high)
  · simp only [go_sem, Nat.reduceEqDiff, undef, undef]
    exact finL_ret [] ⟨rfl, rfl, rfl, rfl, _, rfl, res_mk rfl⟩
  · have h3' := of_decide_eq_true h3
    have hw : IntKind.i64.wrap (hi - lo) = hi - lo := wrap_id (by omega) (by omega)
    simp only [go_sem, Nat.reduceEqDiff, Nat.reduceAdd, Nat.reduceLeDiff, beq_self_eq_true, hw]
    exact finL_ret [] ⟨rfl, rfl, rfl, rfl, _, rfl, res_mk rfl⟩
theorem not_ok {s : Su} (h : ¬ s.OK) : s.ok = false := by rw [← Bool.not_eq_true, s.ok_iff]; exact h
def RsMid (s : Su) (st : St) : Prop := lk st.env 1 = .ptr 0 0 ∧ st.σ = [.cells ((su5 s).map .t)] ∧ st.df = [] ∧ st.k = 0
set_option maxRecDepth 8000 in
set_option maxHeartbeats 8000000 in
theorem rsurf_ok (s : Su) (hl : Lens s) : ACall Tryz.prog 4 [.t (.agg (su5 s))] [] (ret (vb s.ok)) := by
  refine ACall.walk k4 ?_
  unfold c4
  refine awpL_chop 2 (c1 := ?a1) (c2 := ?a2) (fun st => ((1 ≤ s.rows ∧ s.rows ≤ 6) ∧ (0 ≤ s.step ∧ s.step ≤ 4) ∧ s.water.length ≤ 8 ∧ s.waves.length = s.water.length ∧ s.huts.length ≤ 5) ∧ RsMid s st) ?hc ?_ ?_
  case hc => simp only [chop]; rfl
  · unfold su5
    simp only [go_sem, Nat.reduceEqDiff, Nat.reduceAdd, Nat.reduceLeDiff]
    refine ACallL.quiet1 (rin_ok _ _ _) rfl rfl rfl ?_
    cases h1 : wI s.rows 1 6
    · simp only [go_sem, Nat.reduceEqDiff, Bool.not_true, Bool.not_false, undef, undef]
      exact finL_ret [] ⟨rfl, rfl, rfl, rfl, _, rfl, res_mk (by rw [not_ok fun k => by have := k.rows; simp [wI] at h1; omega]; rfl)⟩
    simp only [go_sem, Nat.reduceEqDiff, Nat.reduceAdd, Nat.reduceLeDiff, Bool.not_true, beq_self_eq_true]
    refine ACallL.quiet1 (rin_ok _ _ _) rfl rfl rfl ?_
    cases h2 : wI s.step 0 4
    · simp only [go_sem, Nat.reduceEqDiff, Bool.not_true, Bool.not_false, undef, beq_self_eq_true, undef]
      exact finL_ret [] ⟨rfl, rfl, rfl, rfl, _, rfl, res_mk (by rw [not_ok fun k => by have := k.step; simp [wI] at h2; omega]; rfl)⟩
    simp only [go_sem, Nat.reduceEqDiff, Nat.reduceAdd, Nat.reduceLeDiff, Bool.not_true, beq_self_eq_true, List.length_map]
    cases h3 : decide ((s.water.length : Int) > 8)
    rotate_left
    · simp only [go_sem, Nat.reduceEqDiff, Bool.not_true, undef, undef]
      exact finL_ret [] ⟨rfl, rfl, rfl, rfl, _, rfl, res_mk (by rw [not_ok fun k => by have := k.nw; have := of_decide_eq_true h3; omega]; rfl)⟩
    simp only [go_sem, Nat.reduceEqDiff, Nat.reduceAdd, Nat.reduceLeDiff, Bool.not_false, beq_self_eq_true, List.length_map]
    cases h4 : ((s.waves.length : Int) != s.water.length)
    rotate_left
    · simp only [go_sem, Nat.reduceEqDiff, Bool.not_true, undef, undef]
      exact finL_ret [] ⟨rfl, rfl, rfl, rfl, _, rfl, res_mk (by rw [not_ok fun k => by have := k.nv; rw [this] at h4; simp at h4]; rfl)⟩
    simp only [go_sem, Nat.reduceEqDiff, Nat.reduceAdd, Bool.not_false, beq_self_eq_true, List.length_map]
    cases h5 : decide ((s.huts.length : Int) > 5)
    rotate_left
    · simp only [go_sem]
      exact finL_ret [] ⟨rfl, rfl, rfl, rfl, _, rfl, res_mk (by rw [not_ok fun k => by have := k.nh; have := of_decide_eq_true h5; omega]; rfl)⟩
    simp only [go_sem]
    have g1 : 1 ≤ s.rows ∧ s.rows ≤ 6 := by simpa [wI] using h1
    have g2 : 0 ≤ s.step ∧ s.step ≤ 4 := by simpa [wI] using h2
    have g3 := of_decide_eq_false h3
    have g4 := bne_eq_false_iff_eq.1 h4
    have g5 := of_decide_eq_false h5
    exact ⟨⟨g1, g2, by omega, by omega, by omega⟩, rfl, rfl, rfl, rfl⟩
  rintro ⟨env, σ, df, k⟩ ⟨⟨w1, w2, v3, v4, v5⟩, q1, hσ, hdf, hk⟩
  simp only at q1 hσ hdf hk
  subst hσ hdf hk
  refine awpL_chop 1 (c1 := ?b1) (c2 := ?b2) (fun st => ((∀ x ∈ s.water, Near x 30) ∧ ∀ x ∈ s.waves, Near x 10) ∧ RsMid s st) ?hc2 ?_ ?_
  case hc2 => simp only [chop]; rfl
  · simp only [go_sem]
    refine awpL_loopK s.water.length (fun j st => ((∀ x ∈ s.water.take j, Near x 30) ∧ ∀ x ∈ s.waves.take j, Near x 10) ∧ st = { env := [(3, .t (vi j)), (1, .ptr 0 0)], σ := [.cells ((su5 s).map .t)] }) ⟨_, Sub.gc [0] [3, 1] rfl rfl, ⟨by simp, by simp⟩, ?_⟩ ?_
    · exact St.gc_mk (by simp only [List.map_cons, List.map_nil, lk, Nat.reduceEqDiff, reduceIte, q1]; rfl) rfl rfl rfl
    · rintro j st hjn ⟨⟨hK1, hK2⟩, rfl⟩
      simp only [su5, go_sem, Nat.reduceEqDiff, Nat.reduceAdd, Nat.reduceLeDiff, List.length_map]
      cases g : decide ((j : Int) < s.water.length)
      · have hje : j = s.water.length := by have := of_decide_eq_false g; omega
        subst hje
        rw [List.take_length] at hK1
        rw [← v4, List.take_length] at hK2
        simp only [go_sem]
        exact ⟨⟨hK1, hK2⟩, rfl, rfl, rfl, rfl⟩
      have hj : j < s.water.length := by have := of_decide_eq_true g; omega
      have hx : s.water[j]? = some s.water[j] := List.getElem?_eq_getElem hj
      have hy : s.waves[j]? = some s.waves[j] := List.getElem?_eq_getElem (by omega)
      have tx : s.water.take (j + 1) = s.water.take j ++ [s.water[j]] := by rw [List.take_add_one, hx]; rfl
      have ty : s.waves.take (j + 1) = s.waves.take j ++ [s.waves[j]] := by rw [List.take_add_one, hy]; rfl
      have mx := List.getElem_mem hj
      have my := List.getElem_mem (show j < s.waves.length by omega)
      have hw : IntKind.i64.wrap ((j : Int) + 1) = ((j + 1 : Nat) : Int) := by rw [wrap_id (by omega) (by omega)]; omega
      generalize s.water[j] = x at *
      generalize s.waves[j] = y at *
      have nx := rspan_ok x 30 (by decide)
      have ny := rspan_ok y 10 (by decide)
      have bad1 : nearB x 30 = false → s.ok = false := fun h => not_ok fun k => by rw [(nearB_iff x 30).2 (k.water x mx)] at h; cases h
      have bad2 : nearB y 10 = false → s.ok = false := fun h => not_ok fun k => by rw [(nearB_iff y 10).2 (k.waves y my)] at h; cases h
      have g1 := (nearB_iff x 30).1
      have g2 := (nearB_iff y 10).1
      obtain ⟨xl, xh⟩ := x
      obtain ⟨yl, yh⟩ := y
      simp only [tSp] at nx ny
      generalize nearB (xl, xh) 30 = b1 at *
      generalize nearB (yl, yh) 10 = b2 at *
      simp only [go_sem, Nat.reduceEqDiff, Nat.reduceAdd, Nat.reduceLeDiff, List.getElem?_map, hx, Option.map_some, tSp]
      refine ACallL.quiet1 nx rfl rfl rfl ?_
      cases b1
      · simp only [go_sem, Nat.reduceEqDiff, Bool.not_true, Bool.not_false, undef, undef]
        exact finL_ret [] ⟨rfl, rfl, rfl, rfl, _, rfl, res_mk (by rw [bad1 rfl]; rfl)⟩
      simp only [go_sem, Nat.reduceEqDiff, Nat.reduceAdd, Nat.reduceLeDiff, Bool.not_true, beq_self_eq_true, List.getElem?_map, hy, Option.map_some, tSp]
      refine ACallL.quiet1 ny rfl rfl rfl ?_
      cases b2
      · simp only [go_sem, Nat.reduceEqDiff, Bool.not_false, beq_self_eq_true]
        exact finL_ret [] ⟨rfl, rfl, rfl, rfl, _, rfl, res_mk (by rw [bad2 rfl]; rfl)⟩
      simp only [go_sem, Nat.reduceEqDiff, Bool.not_true, beq_self_eq_true, hw]
      refine ⟨hj, _, Sub.gc [0] [3, 1] rfl rfl, ⟨?_, ?_⟩, rfl⟩
      · rw [tx]; intro z hz
        rcases List.mem_append.1 hz with h | h
        · exact hK1 z h
        · simp at h; subst h; exact g1 rfl
      · rw [ty]; intro z hz
        rcases List.mem_append.1 hz with h | h
        · exact hK2 z h
        · simp at h; subst h; exact g2 rfl
  rintro ⟨env, σ, df, k⟩ ⟨⟨v6, v7⟩, q1, hσ, hdf, hk⟩
  simp only at q1 hσ hdf hk
  subst hσ hdf hk
  simp only [go_sem]
  refine awpL_loopK s.huts.length (fun j st => (∀ h ∈ s.huts.take j, h.OK s.rows) ∧ st = { env := [(4, .t (vi j)), (1, .ptr 0 0)], σ := [.cells ((su5 s).map .t)] }) ⟨_, Sub.gc [0] [4, 1] rfl rfl, by simp, ?_⟩ ?_
  · exact St.gc_mk (by simp only [List.map_cons, List.map_nil, lk, Nat.reduceEqDiff, reduceIte, q1]; rfl) rfl rfl rfl
  · rintro j st hjn ⟨hK, rfl⟩
    simp only [su5, go_sem, Nat.reduceEqDiff, Nat.reduceAdd, List.length_map]
    cases g : decide ((j : Int) < s.huts.length)
    · have hje : j = s.huts.length := by have := of_decide_eq_false g; omega
      subst hje
      rw [List.take_length] at hK
      have hok : s.ok = true := (s.ok_iff).2 ⟨w1, w2, v3, v4, v5, v6, v7, hK⟩
      simp only [go_sem]
      exact finL_ret [] ⟨rfl, rfl, rfl, rfl, _, rfl, res_mk (by rw [hok]; rfl)⟩
    have hj : j < s.huts.length := by have := of_decide_eq_true g; omega
    have hx : s.huts[j]? = some s.huts[j] := List.getElem?_eq_getElem hj
    have tx : s.huts.take (j + 1) = s.huts.take j ++ [s.huts[j]] := by rw [List.take_add_one, hx]; rfl
    have mx := List.getElem_mem hj
    have hw : IntKind.i64.wrap ((j : Int) + 1) = ((j + 1 : Nat) : Int) := by rw [wrap_id (by omega) (by omega)]; omega
    have hr : IntKind.i64.wrap (s.rows - 1) = s.rows - 1 := wrap_id (by omega) (by omega)
    generalize s.huts[j] = x at *
    have bad : ¬ x.OK s.rows → s.ok = false := fun h => not_ok fun k => h (k.huts x mx)
    obtain ⟨f, b, r⟩ := x
    simp only [go_sem, Nat.reduceEqDiff, Nat.reduceAdd, Nat.reduceLeDiff, undef, undef, List.getElem?_map, hx, Option.map_some, tHu]
    refine ACallL.quiet1 (rin_ok _ _ _) rfl rfl rfl ?_
    cases h1 : wI f 0 40
    · simp only [go_sem, Nat.reduceEqDiff, Bool.not_true, Bool.not_false, undef, undef]
      exact finL_ret [] ⟨rfl, rfl, rfl, rfl, _, rfl, res_mk (by rw [bad fun k => by simp [Hu.OK] at k; simp [wI] at h1; omega]; rfl)⟩
    simp only [go_sem, Nat.reduceEqDiff, Nat.reduceAdd, Nat.reduceLeDiff, Bool.not_true, beq_self_eq_true]
    refine ACallL.quiet1 (rin_ok _ _ _) rfl rfl rfl ?_
    cases h2 : wI b 0 10
    · simp only [go_sem, Nat.reduceEqDiff, Bool.not_true, Bool.not_false, undef, beq_self_eq_true, undef]
      exact finL_ret [] ⟨rfl, rfl, rfl, rfl, _, rfl, res_mk (by rw [bad fun k => by simp [Hu.OK] at k; simp [wI] at h2; omega]; rfl)⟩
    simp only [go_sem, Nat.reduceEqDiff, Nat.reduceAdd, Nat.reduceLeDiff, Bool.not_true, beq_self_eq_true, hr]
    refine ACallL.quiet1 (rin_ok _ _ _) rfl rfl rfl ?_
    cases h3 : wI r 0 (s.rows - 1)
    · simp only [go_sem, Nat.reduceEqDiff, Bool.not_false, beq_self_eq_true]
      exact finL_ret [] ⟨rfl, rfl, rfl, rfl, _, rfl, res_mk (by rw [bad fun k => by simp [Hu.OK] at k; simp [wI] at h3; omega]; rfl)⟩
    simp only [go_sem, Nat.reduceEqDiff, Bool.not_true, beq_self_eq_true, hw]
    refine ⟨hj, _, Sub.gc [0] [4, 1] rfl rfl, ?_, rfl⟩
    rw [tx]; intro z hz
    rcases List.mem_append.1 hz with h | h
    · exact hK z h
    · simp at h; subst h; simp [wI] at h1 h2 h3; simp [Hu.OK]; omega
abbrev tI (l : List Int) : T := .slice 1 (l.map fun z : Int => vi z)
theorem ints_ok (a b : List Int) (hl : a.length < 9223372036854775808) : ACall Tryz.prog 49 [.t (tI a), .t (tI b)] [] (ret (vb (decide (a = b)))) := by
  refine ACall.walk k49 ?_
  unfold c49
  simp only [go_sem, Nat.reduceEqDiff, List.length_map]
  cases h0 : ((a.length : Int) != b.length)
  rotate_left
  · have : ¬ a = b := fun e => by rw [e] at h0; simp at h0
    simp only [go_sem]
    exact finL_ret [] ⟨rfl, rfl, rfl, rfl, _, rfl, res_mk (by rw [decide_eq_false this]; rfl)⟩
  have hab : a.length = b.length := by have := bne_eq_false_iff_eq.1 h0; omega
  simp only [go_sem]
  refine awpL_loopK a.length (fun j st => (∀ i < j, a[i]? = b[i]?) ∧ st = { env := [(5, .t (vi j)), (0, .t (tI a)), (1, .t (tI b))], σ := [] }) ⟨_, Sub.gc [] [5, 0, 1] rfl rfl, by simp, rfl⟩ ?_
  rintro j st hj ⟨he, rfl⟩
  simp only [go_sem, Nat.reduceEqDiff, List.length_map]
  cases g : decide ((j : Int) < a.length)
  · have hje : j = a.length := by have := of_decide_eq_false g; omega
    have : a = b := List.ext_getElem? fun i => by
      by_cases c : i < a.length
      · exact he i (by omega)
      · rw [List.getElem?_eq_none (by omega), List.getElem?_eq_none (by omega)]
    simp only [go_sem]
    exact finL_ret [] ⟨rfl, rfl, rfl, rfl, _, rfl, res_mk (by rw [decide_eq_true this]; rfl)⟩
  have hjl : j < a.length := by have := of_decide_eq_true g; omega
  have hw : IntKind.i64.wrap ((j : Int) + 1) = ((j + 1 : Nat) : Int) := by rw [wrap_id (by omega) (by omega)]; omega
  have hx : a[j]? = some a[j] := List.getElem?_eq_getElem hjl
  have hy : b[j]? = some b[j] := List.getElem?_eq_getElem (by omega)
  generalize a[j] = x at *
  generalize b[j] = y at *
  simp only [go_sem, Nat.reduceEqDiff, List.getElem?_map, hx, hy, Option.map_some]
  cases h1 : (x != y)
  · have : x = y := bne_eq_false_iff_eq.1 h1
    simp only [go_sem, Nat.reduceEqDiff, hw]
    refine ⟨hjl, _, Sub.gc [] [5, 0, 1] rfl rfl, fun i hi => ?_, rfl⟩
    by_cases c : i < j
    · exact he i c
    · rw [show i = j by omega, hx, hy, this]
  · have : ¬ a = b := fun e => by rw [e, hy] at hx; cases hx; simp at h1
    simp only [go_sem]
    exact finL_ret [] ⟨rfl, rfl, rfl, rfl, _, rfl, res_mk (by rw [decide_eq_false this]; rfl)⟩
open Go Go.Ab
abbrev Hour := Int × Int
def nextK (step : Int) (h : Hu) (k : Nat) (o : Hour) : Nat := if liftK step h.floor o.1 o.2 k && decide (o.2 > h.brake) then k - 1 else k
theorem liftK_zero (step f w v : Int) : liftK step f w v 0 = false := rfl
theorem nextP_pow (step : Int) (h : Hu) (o : Hour) (k : Nat) : nextP step h o.1 o.2 k = 2 ^ nextK step h k o := by
  unfold nextP nextK
  cases k with
  | zero => rw [liftK_zero]; rfl
  | succ k =>
    split
    · rw [Nat.add_sub_cancel, Nat.pow_succ, Nat.mul_div_cancel _ (by decide)]
    · rfl
theorem nextK_le (step : Int) (h : Hu) (k : Nat) (o : Hour) : nextK step h k o ≤ k := by unfold nextK; split <;> omega
theorem foldG_bit (s : Su) (h : Hu) (j : Nat) : ∀ (L : List Hour) (x k : Nat), (L.foldl (stG s h j) x).testBit k = true ↔ x.testBit k = true ∨ ∃ o ∈ L, nextK s.step h j o = k
  | [], x, k => by simp
  | o :: L, x, k => by
    rw [List.foldl_cons, foldG_bit s h j L]
    unfold stG
    rw [Nat.testBit_or, nextP_pow, Nat.testBit_two_pow, Bool.or_eq_true, decide_eq_true_eq]
    simp only [List.mem_cons, exists_eq_or_imp]
    constructor
    · rintro ((h | h) | h)
      · exact .inl h
      · exact .inr (.inl h)
      · exact .inr (.inr h)
    · rintro (h | h | h)
      · exact .inl (.inl h)
      · exact .inl (.inr h)
      · exact .inr h
theorem foldPG_bit (s : Su) (h : Hu) (L : List Hour) (frm x k : Nat) : ∀ n, (foldP (stG s h) L frm x n).testBit k = true ↔ x.testBit k = true ∨ ∃ j < n, frm.testBit j = true ∧ ∃ o ∈ L, nextK s.step h j o = k
  | 0 => by simp [foldP]
  | n + 1 => by
    have ih := foldPG_bit s h L frm x k n
    simp only [foldP]
    cases hb : frm.testBit n
    · rw [if_neg (by simp), ih]
      constructor
      · rintro (h | ⟨j, hj, h⟩)
        · exact .inl h
        · exact .inr ⟨j, by omega, h⟩
      · rintro (h | ⟨j, hj, h1, h⟩)
        · exact .inl h
        · by_cases e : j = n
          · subst e; rw [hb] at h1; cases h1
          · exact .inr ⟨j, by omega, h1, h⟩
    · rw [if_pos rfl, foldG_bit, ih]
      constructor
      · rintro ((h | ⟨j, hj, h⟩) | h)
        · exact .inl h
        · exact .inr ⟨j, by omega, h⟩
        · exact .inr ⟨n, by omega, hb, h⟩
      · rintro (h | ⟨j, hj, h1, h⟩)
        · exact .inl (.inl h)
        · by_cases e : j = n
          · subst e; exact .inr h
          · exact .inl (.inr ⟨j, by omega, h1, h⟩)
theorem foldT_is (s : Su) (h : Hu) (j : Nat) : ∀ (L : List Hour) (t : Tl), ((L.foldl (stT s h j) t).1 = true ↔ t.1 = true ∨ ∃ o ∈ L, liftK s.step h.floor o.1 o.2 j = true) ∧ ((L.foldl (stT s h j) t).2 = true ↔ t.2 = true ∨ ∃ o ∈ L, liftK s.step h.floor o.1 o.2 j = false)
  | [], t => by simp
  | o :: L, t => by
    obtain ⟨i1, i2⟩ := foldT_is s h j L (stT s h j t o)
    rw [List.foldl_cons, i1, i2]
    unfold stT seeF
    simp only [List.mem_cons, exists_eq_or_imp, Bool.or_eq_true, Bool.not_eq_true', or_assoc, and_self]
theorem foldPT_is (s : Su) (h : Hu) (L : List Hour) (frm : Nat) : ∀ n, ((foldP (stT s h) L frm (false, false) n).1 = true ↔ ∃ j < n, frm.testBit j = true ∧ ∃ o ∈ L, liftK s.step h.floor o.1 o.2 j = true) ∧ ((foldP (stT s h) L frm (false, false) n).2 = true ↔ ∃ j < n, frm.testBit j = true ∧ ∃ o ∈ L, liftK s.step h.floor o.1 o.2 j = false)
  | 0 => by simp [foldP]
  | n + 1 => by
    obtain ⟨i1, i2⟩ := foldPT_is s h L frm n
    have key : ∀ (p : Nat → Prop), (∃ j < n + 1, p j) ↔ (∃ j < n, p j) ∨ p n := fun p => by
      constructor
      · rintro ⟨j, hj, h⟩
        by_cases e : j = n
        · subst e; exact .inr h
        · exact .inl ⟨j, by omega, h⟩
      · rintro (⟨j, hj, h⟩ | h)
        · exact ⟨j, by omega, h⟩
        · exact ⟨n, by omega, h⟩
    simp only [foldP, key]
    cases hb : frm.testBit n
    · rw [if_neg (by simp), i1, i2]
      simp
    · rw [if_pos rfl]
      obtain ⟨t1, t2⟩ := foldT_is s h n L (foldP (stT s h) L frm (false, false) n)
      rw [t1, t2, i1, i2]
      simp
def Tr (s : Su) (os : List Hour) : Prop := ∀ (i : Nat) o, os[i]? = some o → o ∈ hoursL s i
def runP (s : Su) (h : Hu) (os : List Hour) : Nat := os.foldl (nextK s.step h) (h.row.toNat + 1)
theorem runP_snoc (s : Su) (h : Hu) (os : List Hour) (o : Hour) : runP s h (os ++ [o]) = nextK s.step h (runP s h os) o := by unfold runP; rw [List.foldl_append]; rfl
theorem Tr_snoc {s : Su} {os : List Hour} {o : Hour} : Tr s (os ++ [o]) ↔ Tr s os ∧ o ∈ hoursL s os.length := by
  constructor
  · intro h
    refine ⟨fun i x hx => h i x ?_, h os.length o (by simp)⟩
    rw [List.getElem?_append_left (List.getElem?_eq_some_iff.1 hx).1]; exact hx
  · rintro ⟨h1, h2⟩ i x hx
    by_cases c : i < os.length
    · rw [List.getElem?_append_left c] at hx; exact h1 i x hx
    · have hl := (List.getElem?_eq_some_iff.1 hx).1
      rw [List.length_append, List.length_singleton] at hl
      have : i = os.length := by omega
      subst this
      simp at hx; subst hx; exact h2
theorem runP_le (s : Su) (h : Hu) (os : List Hour) : runP s h os ≤ h.row.toNat + 1 := by
  have : ∀ (os : List Hour) (k : Nat), os.foldl (nextK s.step h) k ≤ k := fun os => by
    induction os with
    | nil => intro k; exact Nat.le_refl _
    | cons o os ih => intro k; exact Nat.le_trans (ih _) (nextK_le _ _ _ _)
  exact this os _
theorem snoc_cases {α : Type} (l : List α) {n : Nat} (h : l.length = n + 1) : ∃ l' x, l = l' ++ [x] ∧ l'.length = n :=
  ⟨l.dropLast, l.getLast (by intro e; rw [e] at h; simp at h), (List.dropLast_concat_getLast _).symm, by rw [List.length_dropLast]; omega⟩
theorem log_mem (s : Su) (h : Hu) (hr : 0 ≤ h.row ∧ h.row < 6) : ∀ (t k : Nat), (logS s h t).testBit k = true ↔ ∃ os : List Hour, os.length = t ∧ Tr s os ∧ runP s h os = k
  | 0, k => by
    show (2 ^ (h.row.toNat + 1)).testBit k = true ↔ _
    rw [Nat.testBit_two_pow, decide_eq_true_eq]
    constructor
    · intro e; exact ⟨[], rfl, fun i o h => by simp at h, e⟩
    · rintro ⟨os, hl, _, e⟩
      rw [List.eq_nil_of_length_eq_zero hl] at e
      exact e
  | t + 1, k => by
    show (foldP (stG s h) (hoursL s t) (logS s h t) 0 8).testBit k = true ↔ _
    rw [foldPG_bit]
    simp only [Nat.zero_testBit, Bool.false_eq_true, false_or, log_mem s h hr t]
    constructor
    · rintro ⟨j, hj, ⟨os, hl, ht, e⟩, o, ho, e2⟩
      exact ⟨os ++ [o], by simp [hl], Tr_snoc.2 ⟨ht, by rw [hl]; exact ho⟩, by rw [runP_snoc, e, e2]⟩
    · rintro ⟨os, hl, ht, e⟩
      obtain ⟨os', o, rfl, hl'⟩ := snoc_cases os hl
      obtain ⟨h1, h2⟩ := Tr_snoc.1 ht
      rw [hl'] at h2
      rw [runP_snoc] at e
      exact ⟨runP s h os', by have := runP_le s h os'; omega, ⟨os', hl', h1, rfl⟩, o, h2, e⟩
def Flo (s : Su) (h : Hu) (os : List Hour) (o : Hour) : Bool := liftK s.step h.floor o.1 o.2 (runP s h os)
theorem tal_is (s : Su) (h : Hu) (hr : 0 ≤ h.row ∧ h.row < 6) (i : Nat) : ((talS s h i).1 = true ↔ ∃ os o, os.length = i ∧ Tr s (os ++ [o]) ∧ Flo s h os o = true) ∧ ((talS s h i).2 = true ↔ ∃ os o, os.length = i ∧ Tr s (os ++ [o]) ∧ Flo s h os o = false) := by
  have hb : ∀ b : Bool, (∃ j < 8, (logS s h i).testBit j = true ∧ ∃ o ∈ hoursL s i, liftK s.step h.floor o.1 o.2 j = b) ↔ ∃ os o, os.length = i ∧ Tr s (os ++ [o]) ∧ Flo s h os o = b := fun b => by
    simp only [log_mem s h hr]
    constructor
    · rintro ⟨j, _, ⟨os, hl, ht, e⟩, o, ho, e2⟩
      exact ⟨os, o, hl, Tr_snoc.2 ⟨ht, by rw [hl]; exact ho⟩, by unfold Flo; rw [e]; exact e2⟩
    · rintro ⟨os, o, hl, ht, e⟩
      obtain ⟨h1, h2⟩ := Tr_snoc.1 ht
      exact ⟨runP s h os, by have := runP_le s h os; omega, ⟨os, hl, h1, rfl⟩, o, by rw [← hl]; exact h2, e⟩
  unfold talS
  obtain ⟨t1, t2⟩ := foldPT_is s h (hoursL s i) (logS s h i) 8
  rw [t1, t2]
  exact ⟨hb true, hb false⟩
theorem canB_iff (s : Su) (h : Hu) (hr : 0 ≤ h.row ∧ h.row < 6) (i : Nat) : canB s h i = true ↔ ∃ os o, os.length = i ∧ Tr s (os ++ [o]) ∧ Flo s h os o = true := (tal_is s h hr i).1
theorem sureB_iff (s : Su) (h : Hu) (hr : 0 ≤ h.row ∧ h.row < 6) (i : Nat) : sureB s h i = true ↔ ∀ os o, os.length = i → Tr s (os ++ [o]) → Flo s h os o = true := by
  unfold sureB
  rw [Bool.not_eq_true', ← Bool.not_eq_true, (tal_is s h hr i).2]
  constructor
  · intro h os o hl ht
    cases hf : Flo s _ os o
    · exact absurd ⟨os, o, hl, ht, hf⟩ h
    · rfl
  · rintro h ⟨os, o, hl, ht, hf⟩
    rw [h os o hl ht] at hf; cases hf
open Go Go.Ab
def liI (step floor row w v : Int) : Bool := if row < 0 then false else decide (deepI step w row > 0) && decide (deepI step w row + v > floor)
theorem liI_K {step floor row w v : Int} (hr : -1 ≤ row) : liI step floor row w v = liftK step floor w v (row + 1).toNat := by
  unfold liI liftK
  by_cases h : row < 0
  · have : row = -1 := by omega
    subst this
    rfl
  · rw [if_neg h]
    have e : ((row + 1).toNat == 0) = false := beq_false_of_ne (by omega)
    have e2 : (((row + 1).toNat : Nat) : Int) - 1 = row := by omega
    rw [e, e2]
    rfl
def nxI (step : Int) (h : Hu) (row w v : Int) : Int := if liI step h.floor row w v && decide (v > h.brake) then row - 1 else row
theorem nxI_K {step : Int} {h : Hu} {row w v : Int} (hr : -1 ≤ row) : nxI step h row w v = ((nextK step h (row + 1).toNat (w, v) : Nat) : Int) - 1 := by
  unfold nxI nextK
  rw [liI_K hr]
  split
  · rename_i hc
    rw [Bool.and_eq_true] at hc
    have : (row + 1).toNat ≠ 0 := fun e => by rw [e, liftK_zero] at hc; cases hc.1
    omega
  · omega
theorem deep_bd {step w row : Int} (hs : 0 ≤ step ∧ step ≤ 4) (hw : 0 ≤ w ∧ w ≤ 30) (hr : 0 ≤ row ∧ row ≤ 5) : 0 ≤ step * row ∧ step * row ≤ 20 ∧ 0 ≤ deepI step w row ∧ deepI step w row ≤ 30 := by
  have h1 : step = 0 ∨ step = 1 ∨ step = 2 ∨ step = 3 ∨ step = 4 := by omega
  unfold deepI
  rcases h1 with rfl | rfl | rfl | rfl | rfl <;> omega
theorem rDeep_ok (s : Su) (hs : s.OK) {w row : Int} (hw : 0 ≤ w ∧ w ≤ 30) (hr : 0 ≤ row ∧ row ≤ 5) : ACall Tryz.prog 42 [.t (.agg (su5 s)), .t (vi w), .t (vi row)] [] (ret (vi (deepI s.step w row))) := by
  refine ACall.walk k42 ?_
  have hb := deep_bd hs.step hw hr
  have w1 : IntKind.i64.wrap (s.step * row) = s.step * row := wrap_id (by omega) (by omega)
  have w2 : IntKind.i64.wrap (w - s.step * row) = w - s.step * row := wrap_id (by omega) (by omega)
  unfold c42 su5
  simp only [go_sem, Nat.reduceEqDiff, Nat.reduceAdd, Nat.reduceLeDiff, w1, w2]
  exact finL_ret [] ⟨rfl, rfl, rfl, rfl, _, rfl, res_mk rfl⟩
theorem rLifts_ok (s : Su) (hs : s.OK) {n : Nat} {h : Hu} (hg : s.huts[n]? = some h) {row w v : Int} (hw : 0 ≤ w ∧ w ≤ 30) (hv : 0 ≤ v ∧ v ≤ 10) (hr : row ≤ 5) : ACall Tryz.prog 14 [.t (.agg (su5 s)), .t (vi n), .t (vi row), .t (vi w), .t (vi v)] [] (ret (vb (liI s.step h.floor row w v))) := by
  refine ACall.walk k14 ?_
  have hn0 : ((n : Int) < 0) = False := eq_false (by omega)
  have hth : tHu h = .agg [vi h.floor, vi h.brake, vi h.row] := rfl
  cases g : decide (row < 0)
  rotate_left
  · have hr0 : row < 0 := of_decide_eq_true g
    have e : liI s.step h.floor row w v = false := by unfold liI; rw [if_pos hr0]
    rw [e]
    unfold c14 su5
    simp only [go_sem, Nat.reduceEqDiff, Nat.reduceAdd, g]
    exact finL_ret [] ⟨rfl, rfl, rfl, rfl, _, rfl, res_mk rfl⟩
  have hr0 : ¬ row < 0 := of_decide_eq_false g
  have q := rDeep_ok s hs hw (row := row) (by omega)
  have hb := deep_bd hs.step hw (row := row) (by omega)
  have e : liI s.step h.floor row w v = (decide (deepI s.step w row > 0) && decide (deepI s.step w row + v > h.floor)) := by unfold liI; rw [if_neg hr0]
  rw [e]
  generalize deepI s.step w row = d at *
  have w1 : IntKind.i64.wrap (d + v) = d + v := wrap_id (by omega) (by omega)
  unfold c14
  unfold su5 at q ⊢
  simp only [go_sem, Nat.reduceEqDiff, Nat.reduceAdd, g]
  refine ACallL.quiet1 q rfl rfl rfl ?_
  cases g2 : decide (d > 0)
  · simp only [go_sem, Nat.reduceEqDiff, undef, g2]
    exact finL_ret [] ⟨rfl, rfl, rfl, rfl, _, rfl, res_mk rfl⟩
  · simp only [go_sem, Nat.reduceEqDiff, Nat.reduceAdd, beq_self_eq_true, g2, List.getElem?_map, hg, Option.map_some, hth, w1]
    exact finL_ret [] ⟨rfl, rfl, rfl, rfl, _, rfl, res_mk rfl⟩
theorem rNext_ok (s : Su) (hs : s.OK) {n : Nat} {h : Hu} (hg : s.huts[n]? = some h) {row w v : Int} (hw : 0 ≤ w ∧ w ≤ 30) (hv : 0 ≤ v ∧ v ≤ 10) (hr : -1 ≤ row ∧ row ≤ 5) : ACall Tryz.prog 43 [.t (.agg (su5 s)), .t (vi n), .t (vi row), .t (vi w), .t (vi v)] [] (ret (vi (nxI s.step h row w v))) := by
  refine ACall.walk k43 ?_
  have hn0 : ((n : Int) < 0) = False := eq_false (by omega)
  have hth : tHu h = .agg [vi h.floor, vi h.brake, vi h.row] := rfl
  have q := rLifts_ok s hs hg hw hv hr.2
  have e : nxI s.step h row w v = if liI s.step h.floor row w v && decide (v > h.brake) then row - 1 else row := rfl
  rw [e]
  have w1 : IntKind.i64.wrap (row - 1) = row - 1 := wrap_id (by omega) (by omega)
  unfold c43
  unfold su5 at q ⊢
  simp only [go_sem, Nat.reduceEqDiff, Nat.reduceAdd]
  refine ACallL.quiet1 q rfl rfl rfl ?_
  cases g : liI s.step h.floor row w v
  · simp only [go_sem, Nat.reduceEqDiff, undef]
    exact finL_ret [] ⟨rfl, rfl, rfl, rfl, _, rfl, res_mk rfl⟩
  cases g2 : decide (v > h.brake)
  · simp only [go_sem, Nat.reduceEqDiff, Nat.reduceAdd, beq_self_eq_true, List.getElem?_map, hg, Option.map_some, hth, g2]
    exact finL_ret [] ⟨rfl, rfl, rfl, rfl, _, rfl, res_mk rfl⟩
  · simp only [go_sem, Nat.reduceEqDiff, Nat.reduceAdd, beq_self_eq_true, List.getElem?_map, hg, Option.map_some, hth, g2, w1]
    exact finL_ret [] ⟨rfl, rfl, rfl, rfl, _, rfl, res_mk rfl⟩
end Go.Proofs.YtbhbbjngndmnmaaGreatDoor.S
