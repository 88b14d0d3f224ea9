/- Proved here: laws that the statements need (FlA, FlB, FlD, FlE, FlF, FlG). No conditions but those that each law states. -/
import Derived.Test.YtkbjodmpmmnhgaaDoorMA

set_option linter.unusedSimpArgs false
set_option linter.unusedVariables false

/- Small functions of package flag. -/
namespace Go.Proofs.YtkbjodmpmmnhgaaDoor
open Go Go.Ab

def wI (n lo hi : Int) : Bool := decide (lo ≤ n ∧ n ≤ hi)

theorem within_ok (n lo hi : Int) : ACall Tryd.prog 46 [.t (vi n), .t (vi lo), .t (vi hi)] [] (ret (vb (wI n lo hi))) := by
  refine ACall.walk k46 ?_
  unfold c46
  simp only [go_sem, Nat.reduceEqDiff, Nat.reduceAdd, Nat.reduceSub, Nat.reduceMul, Nat.reduceLT, Nat.reduceLeDiff, Nat.reduceMod, Nat.reduceDiv, Int.reduceToNat, Int.reduceLT, Int.reduceLE, Bool.not_true, Bool.not_false, reduceIte]
  cases hA : decide (lo ≤ n)
  · simp only [go_sem, Nat.reduceEqDiff, Nat.reduceAdd, Nat.reduceSub, Nat.reduceMul, Nat.reduceLT, Nat.reduceLeDiff, Nat.reduceMod, Nat.reduceDiv, Int.reduceToNat, Int.reduceLT, Int.reduceLE, Bool.not_true, Bool.not_false, reduceIte, undef, hA]
    exact finL_ret [] ⟨rfl, rfl, rfl, rfl, _, rfl, res_mk (by
      have : ¬ lo ≤ n := by simpa using hA
      have e : wI n lo hi = false := by simp [wI, this]
      rw [e]; rfl)⟩
  · simp only [go_sem, Nat.reduceEqDiff, Nat.reduceAdd, Nat.reduceSub, Nat.reduceMul, Nat.reduceLT, Nat.reduceLeDiff, Nat.reduceMod, Nat.reduceDiv, Int.reduceToNat, Int.reduceLT, Int.reduceLE, Bool.not_true, Bool.not_false, reduceIte, undef, hA]
    exact finL_ret [] ⟨rfl, rfl, rfl, rfl, _, rfl, res_mk (by
      have : lo ≤ n := by simpa using hA
      have e : wI n lo hi = decide (n ≤ hi) := by simp [wI, this]
      rw [e]; rfl)⟩

def rfs (e : Int) : T := .iface 104 (vi e)
abbrev askO (is : Bool) (e : Int) : Out := if is then .ret (.tup []) else .pan (rfs e)

theorem ask_ok (is : Bool) (e : Int) : ACall Tryd.prog 50 [.t (vb is), .t (vi e)] [] (res (askO is e)) := by
  refine ACall.walk k50 ?_
  unfold c50
  cases is
  all_goals simp only [go_sem, Nat.reduceEqDiff, Nat.reduceAdd, Nat.reduceSub, Nat.reduceMul, Nat.reduceLT, Nat.reduceLeDiff, Nat.reduceMod, Nat.reduceDiv, Int.reduceToNat, Int.reduceLT, Int.reduceLE, Bool.not_true, Bool.not_false, reduceIte, Int.reduceEq, Int.reduceBEq, Int.reduceBNe, Int.reduceGT, Int.reduceGE, Int.reduceNeg, Int.reduceAdd, Int.reduceSub, Nat.reduceBEq, decide_true, decide_false, undef, beq_self_eq_true, bne_self_eq_false, Bool.and_true, Bool.true_and, Bool.and_false, Bool.false_and, Bool.or_true, Bool.true_or, Bool.or_false, Bool.false_or]
  · exact finL_pan [] ⟨rfl, rfl, rfl, rfl, res_mk rfl⟩
  · exact finL_ret [] ⟨rfl, rfl, rfl, rfl, _, rfl, res_mk (by simp [E.gc])⟩

theorem answer_pan {σ : List AO} {id : Nat} {x : E} {e : Int} (h : σ[id]? = some (.cells [x])) : ADef Tryd.prog 44 [.ptr id 0] σ (some (rfs e)) fun σ' => σ' = σ.set id (.cells [.t (vi e)]) := by
  refine ADef.walk a44 ?_
  unfold c44
  simp only [pxT, rfs, go_sem, Nat.reduceEqDiff, Nat.reduceAdd, Nat.reduceSub, Nat.reduceMul, Nat.reduceLT, Nat.reduceLeDiff, Nat.reduceMod, Nat.reduceDiv, Int.reduceToNat, Int.reduceLT, Int.reduceLE, Bool.not_true, Bool.not_false, reduceIte, h]

theorem answer_none {σ : List AO} {a : E} : ADef Tryd.prog 44 [a] σ none fun σ' => σ' = σ := by
  refine ADef.walk a44 ?_
  unfold c44
  simp only [pxT, go_sem, Nat.reduceEqDiff, Nat.reduceAdd, Nat.reduceSub, Nat.reduceMul, Nat.reduceLT, Nat.reduceLeDiff, Nat.reduceMod, Nat.reduceDiv, Int.reduceToNat, Int.reduceLT, Int.reduceLE, Bool.not_true, Bool.not_false, reduceIte]

def p1 (n : Nat) : Nat := (n / 2 &&& 85) + (n &&& 85)
def p2 (n : Nat) : Nat := (n / 4 &&& 51) + (n &&& 51)
def p3 (n : Nat) : Nat := (n / 16 + n) &&& 15

theorem dec256 {p : Nat → Prop} [DecidablePred p] (h : ((List.range 256).all fun n => decide (p n)) = true) (n : Nat) (hn : n < 256) : p n := by
  have := List.all_eq_true.mp h n (List.mem_range.mpr hn)
  simpa using this

theorem p1_ok : ∀ n : Nat, n < 256 → IntKind.u64.wrap (bits .and .u64 ((n : Int).fdiv (2 ^ min 1 64)) 6148914691236517205 + bits .and .u64 (n : Int) 6148914691236517205) = (p1 n : Int) :=
  dec256 (by decide +kernel)
theorem p2_ok : ∀ n : Nat, n < 256 → IntKind.u64.wrap (bits .and .u64 ((n : Int).fdiv (2 ^ min 2 64)) 3689348814741910323 + bits .and .u64 (n : Int) 3689348814741910323) = (p2 n : Int) :=
  dec256 (by decide +kernel)

theorem dec69 {p : Nat → Prop} [DecidablePred p] (h : ((List.range 69).all fun n => decide (p n)) = true) (n : Nat) (hn : n < 69) : p n := by
  have := List.all_eq_true.mp h n (List.mem_range.mpr hn)
  simpa using this
theorem p3_ok : ∀ n : Nat, n < 69 → bits .and .u64 (IntKind.u64.wrap ((n : Int).fdiv (2 ^ min 4 64) + (n : Int))) 1085102592571150095 = (p3 n : Int) :=
  dec69 (by decide +kernel)
theorem p4_ok : ∀ n : Nat, n < 69 → bits .and .i64 (IntKind.i64.wrap (IntKind.u64.wrap (IntKind.u64.wrap (IntKind.u64.wrap ((n : Int) + (n : Int).fdiv (2 ^ min 8 64)) + (IntKind.u64.wrap ((n : Int) + (n : Int).fdiv (2 ^ min 8 64))).fdiv (2 ^ min 16 64)) + (IntKind.u64.wrap (IntKind.u64.wrap ((n : Int) + (n : Int).fdiv (2 ^ min 8 64)) + (IntKind.u64.wrap ((n : Int) + (n : Int).fdiv (2 ^ min 8 64))).fdiv (2 ^ min 16 64))).fdiv (2 ^ min 32 64)))) 127 = (n : Int) :=
  dec69 (by decide +kernel)
theorem p5_ok : ∀ n : Nat, n < 256 → p1 n < 256 ∧ p2 (p1 n) < 69 ∧ p3 (p2 (p1 n)) < 69 ∧ p3 (p2 (p1 n)) = size n :=
  dec256 (by decide +kernel)
/-- How many of the lowest bits are set. -/
def lowF : Nat → Nat → Nat
  | 0, _ => 0
  | k + 1, n => if n % 2 = 1 then 1 + lowF k (n / 2) else 0

def dB (k : Nat) : Nat := (2 ^ k * 285870213051353865 % 18446744073709551616) / 288230376151711744

theorem dec512 {p : Nat → Prop} [DecidablePred p] (h : ((List.range 512).all fun n => decide (p n)) = true) (n : Nat) (hn : n < 512) : p n := by
  have := List.all_eq_true.mp h n (List.mem_range.mpr hn)
  simpa using this
theorem dB_ok : ∀ m : Nat, m < 512 → (IntKind.u64.wrap (bits .and .u64 (18446744073709551615 - (m : Int)) (IntKind.u64.wrap (0 - (18446744073709551615 - (m : Int)))) * 285870213051353865)).fdiv (2 ^ min 58 64) = (dB (lowF 64 m) : Int) ∧ lowF 64 m < 10 :=
  dec512 (by decide +kernel)
theorem ones64_ok (n : Nat) (hn : n < 256) : ACall Tryd.prog 81 [.t (.lit (.int .u64 n))] [] (ret (vi (size n))) := by
  refine ACall.walk k81 ?_
  unfold c81
  have n1 : ¬ ((1 : Int) < 0) := by omega
  simp only [go_sem, Nat.reduceEqDiff, Nat.reduceAdd, Nat.reduceSub, Nat.reduceMul, Nat.reduceLT, Nat.reduceLeDiff, Nat.reduceMod, Nat.reduceDiv, Int.reduceToNat, Int.reduceLT, Int.reduceLE, Bool.not_true, Bool.not_false, reduceIte]
  refine finL_ret [] ⟨rfl, rfl, rfl, rfl, _, rfl, res_mk (congrArg (fun x => Out.ret (.t (vi x))) ?_)⟩
  obtain ⟨h1, h2, h3, h4⟩ := p5_ok n hn
  rw [p1_ok n hn, p2_ok _ h1, p3_ok _ h2]
  exact (p4_ok _ h3).trans (congrArg Int.ofNat h4)

theorem ones_ok (n : Nat) (hn : n < 256) : ACall Tryd.prog 64 [.t (.lit (.int .u64 n))] [] (ret (vi (size n))) := by
  refine ACall.walk k64 ?_
  unfold c64
  simp only [go_sem, Nat.reduceEqDiff, Nat.reduceAdd, Nat.reduceSub, Nat.reduceMul, Nat.reduceLT, Nat.reduceLeDiff, Nat.reduceMod, Nat.reduceDiv, Int.reduceToNat, Int.reduceLT, Int.reduceLE, Bool.not_true, Bool.not_false, reduceIte, Int.reduceEq, Int.reduceBEq, Int.reduceBNe, Int.reduceGT, Int.reduceGE, Int.reduceNeg, Int.reduceAdd, Int.reduceSub, Nat.reduceBEq, decide_true, decide_false, undef, beq_self_eq_true, bne_self_eq_false, Bool.and_true, Bool.true_and, Bool.and_false, Bool.false_and, Bool.or_true, Bool.true_or, Bool.or_false, Bool.false_or]
  refine ACallL.quiet1 (ones64_ok n hn) rfl rfl rfl ?_
  simp only [go_sem, Nat.reduceEqDiff, Nat.reduceAdd, Nat.reduceSub, Nat.reduceMul, Nat.reduceLT, Nat.reduceLeDiff, Nat.reduceMod, Nat.reduceDiv, Int.reduceToNat, Int.reduceLT, Int.reduceLE, Bool.not_true, Bool.not_false, reduceIte, Int.reduceEq, Int.reduceBEq, Int.reduceBNe, Int.reduceGT, Int.reduceGE, Int.reduceNeg, Int.reduceAdd, Int.reduceSub, Nat.reduceBEq, decide_true, decide_false, undef, beq_self_eq_true, bne_self_eq_false, Bool.and_true, Bool.true_and, Bool.and_false, Bool.false_and, Bool.or_true, Bool.true_or, Bool.or_false, Bool.false_or]
  exact finL_ret [] ⟨rfl, rfl, rfl, rfl, _, rfl, res_mk rfl⟩

end Go.Proofs.YtkbjodmpmmnhgaaDoor

/- TrailingZeros64 at the complement of a small number. -/
namespace Go.Proofs.YtkbjodmpmmnhgaaDoor
open Go Go.Ab

def c76g (m : Int) (tb : T) : AC :=
 .seq (.reg [⟨(some 2), none, .mov (.lit (.int .i64 0))⟩])
 (.seq (.seq (.reg [⟨(some 3), none, .mov (.tmp 0)⟩,
     ⟨(some 4), none, .bin .eql (.tmp 3) (.lit (.int .u64 0))⟩])
  (.cond (.tmp 4) (.seq (.reg [⟨(some 2), none, .mov (.lit (.int .i64 64))⟩])
   (.ret))
    (.skip)))
 (.seq (.reg [⟨(some 5), none, .mov (.tmp 0)⟩,
    ⟨(some 6), none, .mov (.tmp 0)⟩,
    ⟨(some 7), none, .un .neg (.tmp 6)⟩,
    ⟨(some 8), none, .bin .and (.tmp 5) (.tmp 7)⟩,
    ⟨(some 9), none, .bin .mul (.tmp 8) (.lit (.int .u64 m))⟩,
    ⟨(some 10), none, .bin .shr (.tmp 9) (.lit (.int .u64 58))⟩,
    ⟨(some 11), none, .iaddrA 64 1 (.tr (.ptr tb 0)) (.tmp 10)⟩,
    ⟨(some 12), none, .load false 1 (.tmp 11)⟩,
    ⟨(some 13), none, .conv .i64 (.tmp 12)⟩,
    ⟨(some 2), none, .mov (.tmp 13)⟩])
 (.ret)))
theorem c76_g : c76 = c76g 285870213051353865 (tabT tab64) := rfl

theorem tz_gen (m : Int) (cs : List T) (x : Int) (k j : Nat) (n2 : (x == 0) = false) (hj : j < 64) (hcs : cs[j]? = some (.lit (.int .u8 k))) (hk : k < 256)
    (d1 : (IntKind.u64.wrap (bits .and .u64 x (IntKind.u64.wrap (0 - x)) * m)).fdiv (2 ^ min 58 64) = (j : Int)) :
    @awpL { P := Tryd.prog, nb := 0, pn := [] } ⟨c76g m (.agg cs)⟩ ⟨fun e s => @finL 0 0 ⟨[.tmp 2]⟩ ⟨ret (vi k)⟩ e s⟩ { env := argEnv 0 [.t (.lit (.int .u64 x))], σ := [], df := [], k := 0 } := by
  unfold c76g
  have hw : IntKind.i64.wrap (k : Int) = k := wrap_id (by omega) (by omega)
  simp only [go_sem, Nat.reduceEqDiff, Nat.reduceAdd, Nat.reduceSub, Nat.reduceMul, Nat.reduceLT, Nat.reduceLeDiff, Nat.reduceMod, Nat.reduceDiv, Int.reduceToNat, Int.reduceLT, Int.reduceLE, Bool.not_true, Bool.not_false, reduceIte, Int.reduceEq, Int.reduceBEq, Int.reduceBNe, Int.reduceGT, Int.reduceGE, Int.reduceNeg, Int.reduceAdd, Int.reduceSub, Nat.reduceBEq, decide_true, decide_false, undef, beq_self_eq_true, bne_self_eq_false, Bool.and_true, Bool.true_and, Bool.and_false, Bool.false_and, Bool.or_true, Bool.true_or, Bool.or_false, Bool.false_or, n2, d1, Nat.mul_one, hcs, hw]
  refine ⟨by omega, ?_⟩
  exact finL_ret [] ⟨rfl, rfl, rfl, rfl, _, rfl, res_mk rfl⟩

theorem tab64_at : ∀ k : Nat, k < 10 → dB k < 64 ∧ tab64[dB k]? = some k := by
  intro k hk
  have : k = 0 ∨ k = 1 ∨ k = 2 ∨ k = 3 ∨ k = 4 ∨ k = 5 ∨ k = 6 ∨ k = 7 ∨ k = 8 ∨ k = 9 := by omega
  rcases this with rfl | rfl | rfl | rfl | rfl | rfl | rfl | rfl | rfl | rfl <;> decide +kernel

theorem tz64x (x : Int) (k : Nat) (n2 : (x == 0) = false) (d2 : k < 10)
    (d1 : (IntKind.u64.wrap (bits .and .u64 x (IntKind.u64.wrap (0 - x)) * 285870213051353865)).fdiv (2 ^ min 58 64) = (dB k : Int)) :
    ACall Tryd.prog 76 [.t (.lit (.int .u64 x))] [] (ret (vi k)) := by
  obtain ⟨h1, h2⟩ := tab64_at k d2
  refine ACall.walk k76 ?_
  rw [c76_g]
  exact tz_gen _ _ x k (dB k) n2 h1 (by rw [List.getElem?_map, h2]; rfl) (by omega) d1

theorem tz64_ok (m : Nat) (hm : m < 512) : ACall Tryd.prog 60 [.t (.lit (.int .u64 (18446744073709551615 - (m : Int))))] [] (ret (vi (lowF 64 m))) := by
  obtain ⟨h1, h2⟩ := dB_ok m hm
  have h := tz64x (18446744073709551615 - (m : Int)) (lowF 64 m) (by rw [beq_eq_false_iff_ne]; omega) h2 h1
  generalize (18446744073709551615 - (m : Int)) = x at *
  refine ACall.walk k60 ?_
  unfold c60
  simp only [go_sem, Nat.reduceEqDiff, Nat.reduceAdd, Nat.reduceSub, Nat.reduceMul, Nat.reduceLT, Nat.reduceLeDiff, Nat.reduceMod, Nat.reduceDiv, Int.reduceToNat, Int.reduceLT, Int.reduceLE, Bool.not_true, Bool.not_false, reduceIte, Int.reduceEq, Int.reduceBEq, Int.reduceBNe, Int.reduceGT, Int.reduceGE, Int.reduceNeg, Int.reduceAdd, Int.reduceSub, Nat.reduceBEq, decide_true, decide_false, undef, beq_self_eq_true, bne_self_eq_false, Bool.and_true, Bool.true_and, Bool.and_false, Bool.false_and, Bool.or_true, Bool.true_or, Bool.or_false, Bool.false_or]
  refine ACallL.quiet1 h rfl rfl rfl ?_
  simp only [go_sem, Nat.reduceEqDiff, Nat.reduceAdd, Nat.reduceSub, Nat.reduceMul, Nat.reduceLT, Nat.reduceLeDiff, Nat.reduceMod, Nat.reduceDiv, Int.reduceToNat, Int.reduceLT, Int.reduceLE, Bool.not_true, Bool.not_false, reduceIte, Int.reduceEq, Int.reduceBEq, Int.reduceBNe, Int.reduceGT, Int.reduceGE, Int.reduceNeg, Int.reduceAdd, Int.reduceSub, Nat.reduceBEq, decide_true, decide_false, undef, beq_self_eq_true, bne_self_eq_false, Bool.and_true, Bool.true_and, Bool.and_false, Bool.false_and, Bool.or_true, Bool.true_or, Bool.or_false, Bool.false_or]
  exact finL_ret [] ⟨rfl, rfl, rfl, rfl, _, rfl, res_mk rfl⟩
end Go.Proofs.YtkbjodmpmmnhgaaDoor

/- Flags as data; kinds of hours. -/
namespace Go.Proofs.YtkbjodmpmmnhgaaDoor
open Go Go.Ab

structure Hr where
  lo : Int
  hi : Int
  th : Int
structure Sn where
  h : Int
  up : Bool
structure Fl where
  low : Int
  high : Int
  quiet : Int
  hs : List Hr
  ss : List Sn

def tHr (h : Hr) : T := .agg [vi h.lo, vi h.hi, vi h.th]
def tSn (s : Sn) : T := .agg [vi s.h, vb s.up]
def fl5 (f : Fl) : List T := [vi f.low, vi f.high, vi f.quiet, .slice 3 (f.hs.map tHr), .slice 2 (f.ss.map tSn)]

def Hr.ok (h : Hr) : Bool := decide (0 ≤ h.lo) && decide (h.lo ≤ h.hi) && decide (h.hi ≤ 12) && wI h.th 0 2
def Fl.ok (f : Fl) : Bool := decide (1 ≤ f.low) && decide (f.low ≤ f.high) && decide (f.high ≤ 12) && wI f.quiet 1 4 && decide (f.hs.length ≤ 9) && decide (f.ss.length ≤ 8) &&
  f.hs.all Hr.ok && f.ss.all fun s => wI s.h 0 (f.hs.length - 1)
structure Fl.OK (f : Fl) : Prop where
  low : 1 ≤ f.low
  lh : f.low ≤ f.high
  high : f.high ≤ 12
  quiet : 1 ≤ f.quiet ∧ f.quiet ≤ 4
  nh : f.hs.length ≤ 9
  ns : f.ss.length ≤ 8
  hs : ∀ h ∈ f.hs, 0 ≤ h.lo ∧ h.lo ≤ h.hi ∧ h.hi ≤ 12 ∧ 0 ≤ h.th ∧ h.th ≤ 2
  ss : ∀ s ∈ f.ss, 0 ≤ s.h ∧ s.h < f.hs.length
theorem Fl.ok_iff (f : Fl) : f.ok = true ↔ f.OK := by
  unfold Fl.ok
  simp only [Bool.and_eq_true, decide_eq_true_eq, List.all_eq_true, Hr.ok, wI]
  constructor
  · rintro ⟨⟨⟨⟨⟨⟨⟨h1, h2⟩, h3⟩, h4⟩, h5⟩, h6⟩, h7⟩, h8⟩
    exact ⟨h1, h2, h3, h4, h5, h6, fun h hh => by have := h7 h hh; omega, fun s hs => by have := h8 s hs; omega⟩
  · rintro ⟨h1, h2, h3, h4, h5, h6, h7, h8⟩
    exact ⟨⟨⟨⟨⟨⟨⟨h1, h2⟩, h3⟩, h4⟩, h5⟩, h6⟩, fun h hh => by have := h7 h hh; omega⟩, fun s hs => by have := h8 s hs; omega⟩

/-- The kind of an hour with such a wind, as a set. -/
def kBit (f : Fl) (n : Int) : Nat := if n ≥ f.high then 4 else if n < f.low then 1 else 2
def kAcc (f : Fl) (lo : Int) : Nat → Nat
  | 0 => 0
  | j + 1 => kAcc f lo j ||| kBit f (lo + j)
/-- Of which kinds an hour can be. -/
def kindsN (f : Fl) (h : Hr) : Nat := (if h.th = 2 then 0 else kAcc f h.lo (h.hi - h.lo + 1).toNat) ||| (if h.th = 0 then 0 else 4)

theorem kBit_lt (f : Fl) (n : Int) : kBit f n < 8 := by
  unfold kBit
  repeat' split
  all_goals decide
theorem kAcc_lt (f : Fl) (lo : Int) : ∀ j, kAcc f lo j < 8
  | 0 => by simp [kAcc]
  | j + 1 => Nat.or_lt_two_pow (n := 3) (kAcc_lt f lo j) (kBit_lt f _)
theorem kindsN_lt (f : Fl) (h : Hr) : kindsN f h < 8 := by
  unfold kindsN
  refine Nat.or_lt_two_pow (n := 3) ?_ ?_
  · split
    · decide
    · exact kAcc_lt _ _ _
  · split <;> decide

set_option maxRecDepth 4000 in
theorem kindsOf_ok (f : Fl) (h : Hr) (hh : 0 ≤ h.lo ∧ h.lo ≤ h.hi ∧ h.hi ≤ 12 ∧ 0 ≤ h.th ∧ h.th ≤ 2) : ACall Tryd.prog 69 [.t (.agg (fl5 f)), .t (tHr h)] [] (ret (vi (kindsN f h))) := by
  refine ACall.walk k69 ?_
  unfold c69 fl5 tHr
  obtain ⟨lo, hi, th⟩ := h
  simp only at hh
  have hNat : ∀ n : Nat, n < 8 → bits .or .i64 (n : Int) 4 = ((n ||| 4 : Nat) : Int) ∧ bits .or .i64 (n : Int) 1 = ((n ||| 1 : Nat) : Int) ∧ bits .or .i64 (n : Int) 2 = ((n ||| 2 : Nat) : Int) := fun n hn =>
    ⟨bits_or (b := 4) (by omega) (by omega), bits_or (b := 1) (by omega) (by omega), bits_or (b := 2) (by omega) (by omega)⟩
  simp only [go_sem, Nat.reduceEqDiff, Nat.reduceAdd, Nat.reduceSub, Nat.reduceMul, Nat.reduceLT, Nat.reduceLeDiff, Nat.reduceMod, Nat.reduceDiv, Int.reduceToNat, Int.reduceLT, Int.reduceLE, Bool.not_true, Bool.not_false, reduceIte]
  refine awpL_loopK (hi - lo + 1).toNat (fun j s => (th = 2 → j = 0) ∧ s = { env := [(5, .t (vi (lo + j))), (4, .t (vi (kAcc f lo j : Nat))), (2, .ptr 0 0), (3, .ptr 1 0)], σ := [.cells [.t (vi f.low), .t (vi f.high), .t (vi f.quiet), .t (.slice 3 (f.hs.map tHr)), .t (.slice 2 (f.ss.map tSn))], .cells [.t (vi lo), .t (vi hi), .t (vi th)]] }) ?_ ?_
  · refine ⟨_, Sub.gc [0, 1] [5, 4, 2, 3] rfl rfl, fun _ => rfl, ?_⟩
    rw [show lo + ((0 : Nat) : Int) = lo by simp]
    rfl
  rintro j s hj ⟨hth, rfl⟩
  have hacc := kAcc_lt f lo j
  obtain ⟨b1, b2, b3⟩ := hNat _ hacc
  have hfin : ∀ (m : Nat) , m < 8 → bits .or .i64 (m : Int) 4 = ((m ||| 4 : Nat) : Int) := fun m hm => (hNat m hm).1
  simp only [go_sem, Nat.reduceEqDiff, Nat.reduceAdd, Nat.reduceSub, Nat.reduceMul, Nat.reduceLT, Nat.reduceLeDiff, Nat.reduceMod, Nat.reduceDiv, Int.reduceToNat, Int.reduceLT, Int.reduceLE, Bool.not_true, Bool.not_false, reduceIte, Int.reduceEq, Int.reduceBEq, Int.reduceBNe, Int.reduceGT, Int.reduceGE, Int.reduceNeg, Int.reduceAdd, Int.reduceSub, Nat.reduceBEq, decide_true, decide_false, undef, beq_self_eq_true, bne_self_eq_false, Bool.and_true, Bool.true_and, Bool.and_false, Bool.false_and, Bool.or_true, Bool.true_or, Bool.or_false, Bool.false_or]
  refine BrL.mk (fun h1 => ?_) (fun h1 => ?_)
  · simp only [go_sem, Nat.reduceEqDiff, Nat.reduceAdd, Nat.reduceSub, Nat.reduceMul, Nat.reduceLT, Nat.reduceLeDiff, Nat.reduceMod, Nat.reduceDiv, Int.reduceToNat, Int.reduceLT, Int.reduceLE, Bool.not_true, Bool.not_false, reduceIte, Int.reduceEq, Int.reduceBEq, Int.reduceBNe, Int.reduceGT, Int.reduceGE, Int.reduceNeg, Int.reduceAdd, Int.reduceSub, Nat.reduceBEq, decide_true, decide_false, undef, beq_self_eq_true, bne_self_eq_false, Bool.and_true, Bool.true_and, Bool.and_false, Bool.false_and, Bool.or_true, Bool.true_or, Bool.or_false, Bool.false_or, h1]
    have h1' : lo + (j : Int) ≤ hi := by simpa using h1
    refine BrL.mk (fun h2 => ?_) (fun h2 => ?_)
    · have h2' : ¬ th = 2 := by simpa using h2
      have hw : IntKind.i64.wrap (lo + (j : Int) + 1) = lo + ((j + 1 : Nat) : Int) := by rw [wrap_id (by omega) (by omega)]; omega
      simp only [go_sem, Nat.reduceEqDiff, Nat.reduceAdd, Nat.reduceSub, Nat.reduceMul, Nat.reduceLT, Nat.reduceLeDiff, Nat.reduceMod, Nat.reduceDiv, Int.reduceToNat, Int.reduceLT, Int.reduceLE, Bool.not_true, Bool.not_false, reduceIte, Int.reduceEq, Int.reduceBEq, Int.reduceBNe, Int.reduceGT, Int.reduceGE, Int.reduceNeg, Int.reduceAdd, Int.reduceSub, Nat.reduceBEq, decide_true, decide_false, undef, beq_self_eq_true, bne_self_eq_false, Bool.and_true, Bool.true_and, Bool.and_false, Bool.false_and, Bool.or_true, Bool.true_or, Bool.or_false, Bool.false_or, h2]
      refine BrL.mk (fun h3 => ?_) (fun h3 => ?_)
      · have hk : kBit f (lo + j) = 4 := by unfold kBit; rw [if_pos (by simpa using h3)]
        simp only [go_sem, Nat.reduceEqDiff, Nat.reduceAdd, Nat.reduceSub, Nat.reduceMul, Nat.reduceLT, Nat.reduceLeDiff, Nat.reduceMod, Nat.reduceDiv, Int.reduceToNat, Int.reduceLT, Int.reduceLE, Bool.not_true, Bool.not_false, reduceIte, Int.reduceEq, Int.reduceBEq, Int.reduceBNe, Int.reduceGT, Int.reduceGE, Int.reduceNeg, Int.reduceAdd, Int.reduceSub, Nat.reduceBEq, decide_true, decide_false, undef, beq_self_eq_true, bne_self_eq_false, Bool.and_true, Bool.true_and, Bool.and_false, Bool.false_and, Bool.or_true, Bool.true_or, Bool.or_false, Bool.false_or, h3, b1, hw]
        exact ⟨by omega, _, Sub.gc [0, 1] [5, 4, 2, 3] rfl rfl, fun e => absurd e h2', by simp only [kAcc, hk]; rfl⟩
      · simp only [go_sem, Nat.reduceEqDiff, Nat.reduceAdd, Nat.reduceSub, Nat.reduceMul, Nat.reduceLT, Nat.reduceLeDiff, Nat.reduceMod, Nat.reduceDiv, Int.reduceToNat, Int.reduceLT, Int.reduceLE, Bool.not_true, Bool.not_false, reduceIte, Int.reduceEq, Int.reduceBEq, Int.reduceBNe, Int.reduceGT, Int.reduceGE, Int.reduceNeg, Int.reduceAdd, Int.reduceSub, Nat.reduceBEq, decide_true, decide_false, undef, beq_self_eq_true, bne_self_eq_false, Bool.and_true, Bool.true_and, Bool.and_false, Bool.false_and, Bool.or_true, Bool.true_or, Bool.or_false, Bool.false_or, h3]
        refine BrL.mk (fun h4 => ?_) (fun h4 => ?_)
        · have hk : kBit f (lo + j) = 1 := by unfold kBit; rw [if_neg (by simpa using h3), if_pos (by simpa using h4)]
          simp only [go_sem, Nat.reduceEqDiff, Nat.reduceAdd, Nat.reduceSub, Nat.reduceMul, Nat.reduceLT, Nat.reduceLeDiff, Nat.reduceMod, Nat.reduceDiv, Int.reduceToNat, Int.reduceLT, Int.reduceLE, Bool.not_true, Bool.not_false, reduceIte, Int.reduceEq, Int.reduceBEq, Int.reduceBNe, Int.reduceGT, Int.reduceGE, Int.reduceNeg, Int.reduceAdd, Int.reduceSub, Nat.reduceBEq, decide_true, decide_false, undef, beq_self_eq_true, bne_self_eq_false, Bool.and_true, Bool.true_and, Bool.and_false, Bool.false_and, Bool.or_true, Bool.true_or, Bool.or_false, Bool.false_or, h4, b2, hw]
          exact ⟨by omega, _, Sub.gc [0, 1] [5, 4, 2, 3] rfl rfl, fun e => absurd e h2', by simp only [kAcc, hk]; rfl⟩
        · have hk : kBit f (lo + j) = 2 := by unfold kBit; rw [if_neg (by simpa using h3), if_neg (by simpa using h4)]
          simp only [go_sem, Nat.reduceEqDiff, Nat.reduceAdd, Nat.reduceSub, Nat.reduceMul, Nat.reduceLT, Nat.reduceLeDiff, Nat.reduceMod, Nat.reduceDiv, Int.reduceToNat, Int.reduceLT, Int.reduceLE, Bool.not_true, Bool.not_false, reduceIte, Int.reduceEq, Int.reduceBEq, Int.reduceBNe, Int.reduceGT, Int.reduceGE, Int.reduceNeg, Int.reduceAdd, Int.reduceSub, Nat.reduceBEq, decide_true, decide_false, undef, beq_self_eq_true, bne_self_eq_false, Bool.and_true, Bool.true_and, Bool.and_false, Bool.false_and, Bool.or_true, Bool.true_or, Bool.or_false, Bool.false_or, h4, b3, hw]
          exact ⟨by omega, _, Sub.gc [0, 1] [5, 4, 2, 3] rfl rfl, fun e => absurd e h2', by simp only [kAcc, hk]; rfl⟩
    · have h2' : th = 2 := by simpa using h2
      subst h2'
      have hj0 := hth rfl
      subst hj0
      simp only [go_sem, Nat.reduceEqDiff, Nat.reduceAdd, Nat.reduceSub, Nat.reduceMul, Nat.reduceLT, Nat.reduceLeDiff, Nat.reduceMod, Nat.reduceDiv, Int.reduceToNat, Int.reduceLT, Int.reduceLE, Bool.not_true, Bool.not_false, reduceIte, Int.reduceEq, Int.reduceBEq, Int.reduceBNe, Int.reduceGT, Int.reduceGE, Int.reduceNeg, Int.reduceAdd, Int.reduceSub, Nat.reduceBEq, decide_true, decide_false, undef, beq_self_eq_true, bne_self_eq_false, Bool.and_true, Bool.true_and, Bool.and_false, Bool.false_and, Bool.or_true, Bool.true_or, Bool.or_false, Bool.false_or, h2, b1]
      exact finL_ret [] ⟨rfl, rfl, rfl, rfl, _, rfl, res_mk rfl⟩
  · have h1' : ¬ lo + (j : Int) ≤ hi := by simpa using h1
    have hn : ¬ th = 2 := fun e => by have := hth e; omega
    obtain rfl : j = (hi - lo + 1).toNat := by omega
    simp only [go_sem, Nat.reduceEqDiff, Nat.reduceAdd, Nat.reduceSub, Nat.reduceMul, Nat.reduceLT, Nat.reduceLeDiff, Nat.reduceMod, Nat.reduceDiv, Int.reduceToNat, Int.reduceLT, Int.reduceLE, Bool.not_true, Bool.not_false, reduceIte, Int.reduceEq, Int.reduceBEq, Int.reduceBNe, Int.reduceGT, Int.reduceGE, Int.reduceNeg, Int.reduceAdd, Int.reduceSub, Nat.reduceBEq, decide_true, decide_false, undef, beq_self_eq_true, bne_self_eq_false, Bool.and_true, Bool.true_and, Bool.and_false, Bool.false_and, Bool.or_true, Bool.true_or, Bool.or_false, Bool.false_or, h1]
    refine BrL.mk (fun h3 => ?_) (fun h3 => ?_)
    · have h3' : ¬ th = 0 := by simpa using h3
      simp only [go_sem, Nat.reduceEqDiff, Nat.reduceAdd, Nat.reduceSub, Nat.reduceMul, Nat.reduceLT, Nat.reduceLeDiff, Nat.reduceMod, Nat.reduceDiv, Int.reduceToNat, Int.reduceLT, Int.reduceLE, Bool.not_true, Bool.not_false, reduceIte, Int.reduceEq, Int.reduceBEq, Int.reduceBNe, Int.reduceGT, Int.reduceGE, Int.reduceNeg, Int.reduceAdd, Int.reduceSub, Nat.reduceBEq, decide_true, decide_false, undef, beq_self_eq_true, bne_self_eq_false, Bool.and_true, Bool.true_and, Bool.and_false, Bool.false_and, Bool.or_true, Bool.true_or, Bool.or_false, Bool.false_or, h3, b1]
      exact finL_ret [] ⟨rfl, rfl, rfl, rfl, _, rfl, res_mk (by simp only [kindsN, if_neg hn, if_neg h3']; rfl)⟩
    · have h3' : th = 0 := by simpa using h3
      simp only [go_sem, Nat.reduceEqDiff, Nat.reduceAdd, Nat.reduceSub, Nat.reduceMul, Nat.reduceLT, Nat.reduceLeDiff, Nat.reduceMod, Nat.reduceDiv, Int.reduceToNat, Int.reduceLT, Int.reduceLE, Bool.not_true, Bool.not_false, reduceIte, Int.reduceEq, Int.reduceBEq, Int.reduceBNe, Int.reduceGT, Int.reduceGE, Int.reduceNeg, Int.reduceAdd, Int.reduceSub, Nat.reduceBEq, decide_true, decide_false, undef, beq_self_eq_true, bne_self_eq_false, Bool.and_true, Bool.true_and, Bool.and_false, Bool.false_and, Bool.or_true, Bool.true_or, Bool.or_false, Bool.false_or, h3]
      exact finL_ret [] ⟨rfl, rfl, rfl, rfl, _, rfl, res_mk (by simp only [kindsN, if_neg hn, if_pos h3', Nat.or_zero]; rfl)⟩

/-! ### The flag, hour by hour -/
abbrev Pole := Bool × Int
def tPole (p : Pole) : T := .agg [vb p.1, vi p.2]
/-- What comes of an hour, and whether the flag is up in it. -/
def hourF (quiet : Int) (p : Pole) (kind : Int) : Pole × Bool :=
  if kind = 2 then ((true, 0), true) else if p.1 = false ∨ kind = 1 then ((p.1, 0), p.1) else if p.2 + 1 = quiet then ((false, 0), true) else ((p.1, p.2 + 1), true)

theorem hour_ok (p : Pole) (kind quiet : Int) (hp : -9223372036854775808 ≤ p.2 ∧ p.2 < 9223372036854775807) : ACall Tryd.prog 89 [.t (tPole p), .t (vi kind), .t (vi quiet)] [] (res (.ret (.tup [.t (tPole (hourF quiet p kind).1), .t (vb (hourF quiet p kind).2)]))) := by
  refine ACall.walk k89 ?_
  unfold c89 tPole
  obtain ⟨up, calm⟩ := p
  have hw : IntKind.i64.wrap (calm + 1) = calm + 1 := wrap_id (by simp only at hp; omega) (by simp only at hp; omega)
  simp only [go_sem, Nat.reduceEqDiff, Nat.reduceAdd, Nat.reduceSub, Nat.reduceMul, Nat.reduceLT, Nat.reduceLeDiff, Nat.reduceMod, Nat.reduceDiv, Int.reduceToNat, Int.reduceLT, Int.reduceLE, Bool.not_true, Bool.not_false, reduceIte, Int.reduceEq, Int.reduceBEq, Int.reduceBNe, Int.reduceGT, Int.reduceGE, Int.reduceNeg, Int.reduceAdd, Int.reduceSub, Nat.reduceBEq, decide_true, decide_false, undef, beq_self_eq_true, bne_self_eq_false, Bool.and_true, Bool.true_and, Bool.and_false, Bool.false_and, Bool.or_true, Bool.true_or, Bool.or_false, Bool.false_or]
  refine BrL.mk (fun h1 => ?_) (fun h1 => ?_)
  · have h1' : kind = 2 := by simpa using h1
    simp only [go_sem, Nat.reduceEqDiff, Nat.reduceAdd, Nat.reduceSub, Nat.reduceMul, Nat.reduceLT, Nat.reduceLeDiff, Nat.reduceMod, Nat.reduceDiv, Int.reduceToNat, Int.reduceLT, Int.reduceLE, Bool.not_true, Bool.not_false, reduceIte, Int.reduceEq, Int.reduceBEq, Int.reduceBNe, Int.reduceGT, Int.reduceGE, Int.reduceNeg, Int.reduceAdd, Int.reduceSub, Nat.reduceBEq, decide_true, decide_false, undef, beq_self_eq_true, bne_self_eq_false, Bool.and_true, Bool.true_and, Bool.and_false, Bool.false_and, Bool.or_true, Bool.true_or, Bool.or_false, Bool.false_or, h1]
    exact finL_ret [] ⟨rfl, rfl, rfl, rfl, _, rfl, res_mk (by simp only [hourF, if_pos h1']; rfl)⟩
  · have h1' : ¬ kind = 2 := by simpa using h1
    simp only [go_sem, Nat.reduceEqDiff, Nat.reduceAdd, Nat.reduceSub, Nat.reduceMul, Nat.reduceLT, Nat.reduceLeDiff, Nat.reduceMod, Nat.reduceDiv, Int.reduceToNat, Int.reduceLT, Int.reduceLE, Bool.not_true, Bool.not_false, reduceIte, Int.reduceEq, Int.reduceBEq, Int.reduceBNe, Int.reduceGT, Int.reduceGE, Int.reduceNeg, Int.reduceAdd, Int.reduceSub, Nat.reduceBEq, decide_true, decide_false, undef, beq_self_eq_true, bne_self_eq_false, Bool.and_true, Bool.true_and, Bool.and_false, Bool.false_and, Bool.or_true, Bool.true_or, Bool.or_false, Bool.false_or, h1]
    cases up
    · simp only [go_sem, Nat.reduceEqDiff, Nat.reduceAdd, Nat.reduceSub, Nat.reduceMul, Nat.reduceLT, Nat.reduceLeDiff, Nat.reduceMod, Nat.reduceDiv, Int.reduceToNat, Int.reduceLT, Int.reduceLE, Bool.not_true, Bool.not_false, reduceIte, Int.reduceEq, Int.reduceBEq, Int.reduceBNe, Int.reduceGT, Int.reduceGE, Int.reduceNeg, Int.reduceAdd, Int.reduceSub, Nat.reduceBEq, decide_true, decide_false, undef, beq_self_eq_true, bne_self_eq_false, Bool.and_true, Bool.true_and, Bool.and_false, Bool.false_and, Bool.or_true, Bool.true_or, Bool.or_false, Bool.false_or]
      exact finL_ret [] ⟨rfl, rfl, rfl, rfl, _, rfl, res_mk (by simp only [hourF, if_neg h1']; rfl)⟩
    · simp only [go_sem, Nat.reduceEqDiff, Nat.reduceAdd, Nat.reduceSub, Nat.reduceMul, Nat.reduceLT, Nat.reduceLeDiff, Nat.reduceMod, Nat.reduceDiv, Int.reduceToNat, Int.reduceLT, Int.reduceLE, Bool.not_true, Bool.not_false, reduceIte, Int.reduceEq, Int.reduceBEq, Int.reduceBNe, Int.reduceGT, Int.reduceGE, Int.reduceNeg, Int.reduceAdd, Int.reduceSub, Nat.reduceBEq, decide_true, decide_false, undef, beq_self_eq_true, bne_self_eq_false, Bool.and_true, Bool.true_and, Bool.and_false, Bool.false_and, Bool.or_true, Bool.true_or, Bool.or_false, Bool.false_or]
      refine BrL.mk (fun h2 => ?_) (fun h2 => ?_)
      · have h2' : kind = 1 := by simpa using h2
        simp only [go_sem, Nat.reduceEqDiff, Nat.reduceAdd, Nat.reduceSub, Nat.reduceMul, Nat.reduceLT, Nat.reduceLeDiff, Nat.reduceMod, Nat.reduceDiv, Int.reduceToNat, Int.reduceLT, Int.reduceLE, Bool.not_true, Bool.not_false, reduceIte, Int.reduceEq, Int.reduceBEq, Int.reduceBNe, Int.reduceGT, Int.reduceGE, Int.reduceNeg, Int.reduceAdd, Int.reduceSub, Nat.reduceBEq, decide_true, decide_false, undef, beq_self_eq_true, bne_self_eq_false, Bool.and_true, Bool.true_and, Bool.and_false, Bool.false_and, Bool.or_true, Bool.true_or, Bool.or_false, Bool.false_or, h2]
        exact finL_ret [] ⟨rfl, rfl, rfl, rfl, _, rfl, res_mk (by subst h2'; rfl)⟩
      · have h2' : ¬ kind = 1 := by simpa using h2
        simp only [go_sem, Nat.reduceEqDiff, Nat.reduceAdd, Nat.reduceSub, Nat.reduceMul, Nat.reduceLT, Nat.reduceLeDiff, Nat.reduceMod, Nat.reduceDiv, Int.reduceToNat, Int.reduceLT, Int.reduceLE, Bool.not_true, Bool.not_false, reduceIte, Int.reduceEq, Int.reduceBEq, Int.reduceBNe, Int.reduceGT, Int.reduceGE, Int.reduceNeg, Int.reduceAdd, Int.reduceSub, Nat.reduceBEq, decide_true, decide_false, undef, beq_self_eq_true, bne_self_eq_false, Bool.and_true, Bool.true_and, Bool.and_false, Bool.false_and, Bool.or_true, Bool.true_or, Bool.or_false, Bool.false_or, h2, hw]
        refine BrL.mk (fun h3 => ?_) (fun h3 => ?_)
        · have h3' : calm + 1 = quiet := by simpa using h3
          simp only [go_sem, Nat.reduceEqDiff, Nat.reduceAdd, Nat.reduceSub, Nat.reduceMul, Nat.reduceLT, Nat.reduceLeDiff, Nat.reduceMod, Nat.reduceDiv, Int.reduceToNat, Int.reduceLT, Int.reduceLE, Bool.not_true, Bool.not_false, reduceIte, Int.reduceEq, Int.reduceBEq, Int.reduceBNe, Int.reduceGT, Int.reduceGE, Int.reduceNeg, Int.reduceAdd, Int.reduceSub, Nat.reduceBEq, decide_true, decide_false, undef, beq_self_eq_true, bne_self_eq_false, Bool.and_true, Bool.true_and, Bool.and_false, Bool.false_and, Bool.or_true, Bool.true_or, Bool.or_false, Bool.false_or, h3]
          exact finL_ret [] ⟨rfl, rfl, rfl, rfl, _, rfl, res_mk (by simp only [hourF, if_neg h1', h2', h3']; rfl)⟩
        · have h3' : ¬ calm + 1 = quiet := by simpa using h3
          simp only [go_sem, Nat.reduceEqDiff, Nat.reduceAdd, Nat.reduceSub, Nat.reduceMul, Nat.reduceLT, Nat.reduceLeDiff, Nat.reduceMod, Nat.reduceDiv, Int.reduceToNat, Int.reduceLT, Int.reduceLE, Bool.not_true, Bool.not_false, reduceIte, Int.reduceEq, Int.reduceBEq, Int.reduceBNe, Int.reduceGT, Int.reduceGE, Int.reduceNeg, Int.reduceAdd, Int.reduceSub, Nat.reduceBEq, decide_true, decide_false, undef, beq_self_eq_true, bne_self_eq_false, Bool.and_true, Bool.true_and, Bool.and_false, Bool.false_and, Bool.or_true, Bool.true_or, Bool.or_false, Bool.false_or, h3]
          exact finL_ret [] ⟨rfl, rfl, rfl, rfl, _, rfl, res_mk (by simp only [hourF, if_neg h1', h2', h3']; rfl)⟩

theorem has_ok (k n : Nat) (hk : k < 8) (hn : n < 3) : ACall Tryd.prog 88 [.t (vi k), .t (vi n)] [] (ret (vb (k.testBit n))) := by
  refine ACall.walk k88 ?_
  unfold c88
  simp only [go_sem, Nat.reduceEqDiff, Nat.reduceAdd, Nat.reduceSub, Nat.reduceMul, Nat.reduceLT, Nat.reduceLeDiff, Nat.reduceMod, Nat.reduceDiv, Int.reduceToNat, Int.reduceLT, Int.reduceLE, Bool.not_true, Bool.not_false, reduceIte, Int.reduceEq, Int.reduceBEq, Int.reduceBNe, Int.reduceGT, Int.reduceGE, Int.reduceNeg, Int.reduceAdd, Int.reduceSub, Nat.reduceBEq, decide_true, decide_false, undef, beq_self_eq_true, bne_self_eq_false, Bool.and_true, Bool.true_and, Bool.and_false, Bool.false_and, Bool.or_true, Bool.true_or, Bool.or_false, Bool.false_or, nat_neg, bit_eq (show k < 9223372036854775808 by omega)]
  exact finL_ret [] ⟨rfl, rfl, rfl, rfl, _, rfl, res_mk rfl⟩
end Go.Proofs.YtkbjodmpmmnhgaaDoor

/- The flag that is looked at: what open makes. -/
namespace Go.Proofs.YtkbjodmpmmnhgaaDoor
open Go Go.Ab

theorem splice_one {α : Type} (cs : List α) (n : Nat) (v : α) (h : n < cs.length) : splice cs n [v] = cs.set n v := by
  unfold splice
  simp only [List.length_singleton, List.append_assoc, List.singleton_append]
  rw [List.set_eq_take_append_cons_drop, if_pos h]

def arr9 {α : Type} (g : Nat → α) : List α := [g 0, g 1, g 2, g 3, g 4, g 5, g 6, g 7, g 8]
theorem arr9_len {α : Type} (g : Nat → α) : (arr9 g).length = 9 := rfl
theorem arr9_get {α : Type} (g : Nat → α) {i : Nat} (h : i < 9) : (arr9 g)[i]? = some (g i) := by
  have : i = 0 ∨ i = 1 ∨ i = 2 ∨ i = 3 ∨ i = 4 ∨ i = 5 ∨ i = 6 ∨ i = 7 ∨ i = 8 := by omega
  rcases this with rfl | rfl | rfl | rfl | rfl | rfl | rfl | rfl | rfl <;> rfl
def upd {α : Type} (g : Nat → α) (n : Nat) (v : α) : Nat → α := fun i => if i = n then v else g i
theorem arr9_set {α β : Type} (t : β → α) (g : Nat → β) {n : Nat} (h : n < 9) (v : β) : (arr9 fun i => t (g i)).set n (t v) = arr9 fun i => t (upd g n v i) := by
  have : n = 0 ∨ n = 1 ∨ n = 2 ∨ n = 3 ∨ n = 4 ∨ n = 5 ∨ n = 6 ∨ n = 7 ∨ n = 8 := by omega
  rcases this with rfl | rfl | rfl | rfl | rfl | rfl | rfl | rfl | rfl <;> rfl

/-- The cells of a flag that is looked at. -/
def cellsE (f : Fl) (K : Nat → Nat) (U D : Nat → Bool) : List E := (fl5 f).map .t ++ (arr9 (fun i => .t (vi (K i))) ++ (arr9 (fun i => .t (vb (U i))) ++ arr9 fun i => .t (vb (D i))))
theorem cellsE_len (f : Fl) (K : Nat → Nat) (U D : Nat → Bool) : (cellsE f K U D).length = 32 := rfl

theorem cells_K (f : Fl) (K : Nat → Nat) (U D : Nat → Bool) {n : Nat} (h : n < 9) (v : Nat) : List.take (5 + n) (cellsE f K U D) ++ [.t (vi v)] ++ List.drop (5 + n + 1) (cellsE f K U D) = cellsE f (upd K n v) U D := by
  refine (splice_one _ _ _ (by rw [cellsE_len]; omega)).trans ?_
  unfold cellsE
  rw [List.set_append_right _ _ (by simp [fl5]), List.set_append_left _ _ (by simp [fl5, arr9_len]; omega)]
  rw [show 5 + n - ((fl5 f).map E.t).length = n by simp [fl5], arr9_set (fun k : Nat => E.t (vi k)) K h v]
theorem cells_U (f : Fl) (K : Nat → Nat) (U D : Nat → Bool) {n : Nat} (h : n < 9) (v : Bool) : List.take (14 + n) (cellsE f K U D) ++ [.t (vb v)] ++ List.drop (14 + n + 1) (cellsE f K U D) = cellsE f K (upd U n v) D := by
  refine (splice_one _ _ _ (by rw [cellsE_len]; omega)).trans ?_
  unfold cellsE
  rw [List.set_append_right _ _ (by simp [fl5]; omega), List.set_append_right _ _ (by simp [fl5, arr9_len]; omega), List.set_append_left _ _ (by simp [fl5, arr9_len]; omega)]
  rw [show 14 + n - ((fl5 f).map E.t).length - (arr9 fun i => E.t (vi (K i))).length = n by simp [fl5, arr9_len]; omega, arr9_set (fun k : Bool => E.t (vb k)) U h v]
theorem cells_D (f : Fl) (K : Nat → Nat) (U D : Nat → Bool) {n : Nat} (h : n < 9) (v : Bool) : List.take (23 + n) (cellsE f K U D) ++ [.t (vb v)] ++ List.drop (23 + n + 1) (cellsE f K U D) = cellsE f K U (upd D n v) := by
  refine (splice_one _ _ _ (by rw [cellsE_len]; omega)).trans ?_
  unfold cellsE
  rw [List.set_append_right _ _ (by simp [fl5]; omega), List.set_append_right _ _ (by simp [fl5, arr9_len]; omega), List.set_append_right _ _ (by simp [fl5, arr9_len]; omega)]
  rw [show 23 + n - ((fl5 f).map E.t).length - (arr9 fun i => E.t (vi (K i))).length - (arr9 fun i => E.t (vb (U i))).length = n by simp [fl5, arr9_len]; omega, arr9_set (fun k : Bool => E.t (vb k)) D h v]

/-- Is a flag told to be up, or down, in an hour, by what was seen? -/
def said (up : Bool) (l : List Sn) (i : Nat) : Bool := l.any fun s => s.up == up && s.h == (i : Int)
theorem said_snoc (up : Bool) (l : List Sn) (s : Sn) (i : Nat) : said up (l ++ [s]) i = (said up l i || (s.up == up && s.h == (i : Int))) := by simp [said]

set_option maxRecDepth 4000 in
theorem see_ok (f : Fl) (K : Nat → Nat) (U D : Nat → Bool) (ss : List Sn) (hl : ss.length < 1000) (hs : ∀ s ∈ ss, 0 ≤ s.h ∧ s.h < 9) :
    ACall Tryd.prog 70 [.ptr 0 0, .t (.slice 2 (ss.map tSn))] [.cells (cellsE f K U D)] fun o σ' => o = .ret (.tup []) ∧ σ' = [.cells (cellsE f K (fun i => U i && !said false ss i) (fun i => D i && !said true ss i))] := by
  refine ACall.walk k70 ?_
  unfold c70
  simp only [go_sem, Nat.reduceEqDiff, Nat.reduceAdd, Nat.reduceSub, Nat.reduceMul, Nat.reduceLT, Nat.reduceLeDiff, Nat.reduceMod, Nat.reduceDiv, Int.reduceToNat, Int.reduceLT, Int.reduceLE, Bool.not_true, Bool.not_false, reduceIte, List.length_map]
  refine awpL_for (i := 8) (L := 7) ss.length (fun k s => s = { env := [(8, .t (vi k)), (7, .t (vi ss.length)), (6, .t (.slice 2 (ss.map tSn))), (0, .ptr 0 0)], σ := [.cells (cellsE f K (fun i => U i && !said false (ss.take k) i) (fun i => D i && !said true (ss.take k) i))] }) ?_ ⟨_, Sub.gc [0] [8, 7, 6, 0] rfl rfl, ?_⟩ ?_ ?_
  · rintro k s rfl; exact ⟨rfl, rfl⟩
  · have e0 : ∀ (up : Bool) (U : Nat → Bool), (fun i => U i && !said up (ss.take 0) i) = U := fun up U => by funext i; simp [said]
    rw [e0, e0]
    rfl
  · rintro k s hk rfl
    have hg : ss[k]? = some ss[k] := List.getElem?_eq_getElem hk
    have hsk := hs _ (List.getElem_mem hk)
    have htk : ss.take (k + 1) = ss.take k ++ [ss[k]] := by rw [List.take_add_one, hg]; rfl
    generalize ss[k] = x at *
    obtain ⟨h, up⟩ := x
    obtain ⟨n, rfl⟩ : ∃ n : Nat, h = n := ⟨h.toNat, by simp only at hsk; omega⟩
    have hn : n < 9 := by simp only at hsk; omega
    have hw : IntKind.i64.wrap ((k : Int) + 1) = ((k + 1 : Nat) : Int) := by rw [wrap_id (by omega) (by omega)]; omega
    simp only [go_sem, Nat.reduceEqDiff, Nat.reduceAdd, Nat.reduceSub, Nat.reduceMul, Nat.reduceLT, Nat.reduceLeDiff, Nat.reduceMod, Nat.reduceDiv, Int.reduceToNat, Int.reduceLT, Int.reduceLE, Bool.not_true, Bool.not_false, reduceIte, Int.reduceEq, Int.reduceBEq, Int.reduceBNe, Int.reduceGT, Int.reduceGE, Int.reduceNeg, Int.reduceAdd, Int.reduceSub, Nat.reduceBEq, decide_true, decide_false, undef, beq_self_eq_true, bne_self_eq_false, Bool.and_true, Bool.true_and, Bool.and_false, Bool.false_and, Bool.or_true, Bool.true_or, Bool.or_false, Bool.false_or, List.length_map, List.getElem?_map, hg, tSn]
    have e1 : ∀ (U : Nat → Bool) (v : Bool), (fun i => U i && !said v (ss.take (k + 1)) i) = if up = v then upd (fun i => U i && !said v (ss.take k) i) n false else fun i => U i && !said v (ss.take k) i := fun U v => by
      rw [htk]
      by_cases hv : up = v
      · rw [if_pos hv]
        funext i
        rw [said_snoc, hv]
        unfold upd
        by_cases hi : i = n
        · simp [hi]
        · have : ((n : Int) == (i : Int)) = false := by rw [beq_eq_false_iff_ne]; omega
          simp [hi, this]
      · rw [if_neg hv]
        funext i
        have : (up == v) = false := by simpa using hv
        rw [said_snoc, this]
        simp
    have hn' : (n : Int) < 9 := by omega
    cases up
    · have c1 : 14 + n ≤ 31 := by omega
      simp only [go_sem, Nat.reduceEqDiff, Nat.reduceAdd, Nat.reduceSub, Nat.reduceMul, Nat.reduceLT, Nat.reduceLeDiff, Nat.reduceMod, Nat.reduceDiv, Int.reduceToNat, Int.reduceLT, Int.reduceLE, Bool.not_true, Bool.not_false, reduceIte, Int.reduceEq, Int.reduceBEq, Int.reduceBNe, Int.reduceGT, Int.reduceGE, Int.reduceNeg, Int.reduceAdd, Int.reduceSub, Nat.reduceBEq, decide_true, decide_false, undef, beq_self_eq_true, bne_self_eq_false, Bool.and_true, Bool.true_and, Bool.and_false, Bool.false_and, Bool.or_true, Bool.true_or, Bool.or_false, Bool.false_or, cellsE_len, Nat.mul_one, c1, hn', cells_U f K _ _ hn false, hw]
      refine ⟨_, Sub.gc [0] [8, 7, 6, 0] rfl rfl, ?_⟩
      rw [e1, e1, if_pos rfl, if_neg (by decide)]
      rfl
    · have c1 : 23 + n ≤ 31 := by omega
      simp only [go_sem, Nat.reduceEqDiff, Nat.reduceAdd, Nat.reduceSub, Nat.reduceMul, Nat.reduceLT, Nat.reduceLeDiff, Nat.reduceMod, Nat.reduceDiv, Int.reduceToNat, Int.reduceLT, Int.reduceLE, Bool.not_true, Bool.not_false, reduceIte, Int.reduceEq, Int.reduceBEq, Int.reduceBNe, Int.reduceGT, Int.reduceGE, Int.reduceNeg, Int.reduceAdd, Int.reduceSub, Nat.reduceBEq, decide_true, decide_false, undef, beq_self_eq_true, bne_self_eq_false, Bool.and_true, Bool.true_and, Bool.and_false, Bool.false_and, Bool.or_true, Bool.true_or, Bool.or_false, Bool.false_or, cellsE_len, Nat.mul_one, c1, hn', cells_D f K _ _ hn false, hw]
      refine ⟨_, Sub.gc [0] [8, 7, 6, 0] rfl rfl, ?_⟩
      rw [e1, e1, if_pos rfl, if_neg (by decide)]
      rfl
  · rintro s rfl
    simp only [go_sem, Nat.reduceEqDiff, Nat.reduceAdd, Nat.reduceSub, Nat.reduceMul, Nat.reduceLT, Nat.reduceLeDiff, Nat.reduceMod, Nat.reduceDiv, Int.reduceToNat, Int.reduceLT, Int.reduceLE, Bool.not_true, Bool.not_false, reduceIte, Int.reduceEq, Int.reduceBEq, Int.reduceBNe, Int.reduceGT, Int.reduceGE, Int.reduceNeg, Int.reduceAdd, Int.reduceSub, Nat.reduceBEq, decide_true, decide_false, undef, beq_self_eq_true, bne_self_eq_false, Bool.and_true, Bool.true_and, Bool.and_false, Bool.false_and, Bool.or_true, Bool.true_or, Bool.or_false, Bool.false_or]
    refine finL_ret [0] ⟨rfl, rfl, rfl, rfl, _, rfl, rfl, ?_⟩
    simp only [List.take_length]
    rfl

/-- The same over whatever store. -/
theorem see_at (f : Fl) (K : Nat → Nat) (U D : Nat → Bool) (ss : List Sn) (hl : ss.length < 1000) (hs : ∀ s ∈ ss, 0 ≤ s.h ∧ s.h < 9) {p : Nat} {σ : List AO} {R : Lz (Out → List AO → Prop)} (hp : σ[p]? = some (.cells (cellsE f K U D)))
    (hk : R.get (.ret (.tup [])) (σ.set p (.cells (cellsE f K (fun i => U i && !said false ss i) (fun i => D i && !said true ss i))))) : @ACallL Tryd.prog 70 [.ptr p 0, .t (.slice 2 (ss.map tSn))] σ R := by
  have h := see_ok f K U D ss hl hs
  have hpl := (List.getElem?_eq_some_iff.1 hp).1
  have e0 : lendR [p] σ.length 0 = p := rfl
  have er : ∀ (ρ : Nat → Nat) (K : Nat → Nat) (U D : Nat → Bool), E.rens ρ (cellsE f K U D) = cellsE f K U D := fun ρ K U D => rfl
  refine ACall.mono (ACall.lend [p] h (by simp) (by simp; omega) rfl (fun i o ho => ?_) (args := [.ptr p 0, .t (.slice 2 (ss.map tSn))]) (by simp [E.rens_map, E.ren, e0])) ?_
  · match i, ho with
    | 0, ho => simp at ho; subst ho; simp only [AO.ren, er, e0, hp]
  · rintro o σ1 ⟨o0, σ0, ⟨rfl, rfl⟩, _, rfl, rfl⟩
    simp only [List.map_cons, List.map_nil, AO.ren, er, lendB, Out.ren, E.ren, List.append_nil, E.rens]
    exact hk

/-- A flag that is looked at. -/
def cellsB (f : Fl) (K : Nat → Nat) (U D : Nat → Bool) : List T := fl5 f ++ (arr9 (fun i => vi (K i)) ++ (arr9 (fun i => vb (U i)) ++ arr9 fun i => vb (D i)))
def Kf (f : Fl) (i : Nat) : Nat := match f.hs[i]? with | some h => kindsN f h | none => 0
def Uf (f : Fl) (i : Nat) : Bool := decide (i < f.hs.length) && !said false f.ss i
def Df (f : Fl) (i : Nat) : Bool := decide (i < f.hs.length) && !said true f.ss i
def tBch (f : Fl) : T := .ptr (.agg (cellsB f (Kf f) (Uf f) (Df f))) 0
abbrev openO (f : Fl) (is : Bool) : Out := if f.ok then (if is then .ret (.t (tBch f)) else .pan (rfs 2)) else .pan (rfs 1)

set_option maxRecDepth 4000 in
theorem open_ok (f : Fl) (is : Bool) (hl : f.hs.length < 9223372036854775808 ∧ f.ss.length < 9223372036854775808) : ACall Tryd.prog 45 [.t (.agg (fl5 f)), .t (vb is)] [] (res (openO f is)) := by
  refine ACall.walk k45 ?_
  unfold c45
  refine awpL_chop 2 (c1 := ?a1) (c2 := ?a2) (fun s => 1 ≤ f.low ∧ f.low ≤ f.high ∧ f.high ≤ 12 ∧ (1 ≤ f.quiet ∧ f.quiet ≤ 4) ∧ f.hs.length ≤ 9 ∧ f.ss.length ≤ 8 ∧
    lk s.env 2 = .ptr 0 0 ∧ lk s.env 1 = .t (vb is) ∧ s.σ = [.cells ((fl5 f).map .t)] ∧ s.df = [] ∧ s.k = 0) ?hc ?_ ?_
  case hc => simp only [chop]; rfl
  · unfold fl5
    have bad : ¬ f.OK → openO f is = .pan (rfs 1) := fun h => by
      have : f.ok = false := by rw [← Bool.not_eq_true, f.ok_iff]; exact h
      simp only [openO, this]
      rfl
    simp only [go_sem, Nat.reduceEqDiff, Nat.reduceAdd, Nat.reduceSub, Nat.reduceMul, Nat.reduceLT, Nat.reduceLeDiff, Nat.reduceMod, Nat.reduceDiv, Int.reduceToNat, Int.reduceLT, Int.reduceLE, Bool.not_true, Bool.not_false, reduceIte, Int.reduceEq, Int.reduceBEq, Int.reduceBNe, Int.reduceGT, Int.reduceGE, Int.reduceNeg, Int.reduceAdd, Int.reduceSub, Nat.reduceBEq, decide_true, decide_false, undef, beq_self_eq_true, bne_self_eq_false, Bool.and_true, Bool.true_and, Bool.and_false, Bool.false_and, Bool.or_true, Bool.true_or, Bool.or_false, Bool.false_or, List.length_map]
    refine BrL.mk (fun h1 => ?_) (fun h1 => ?_)
    rotate_left
    · simp only [go_sem, Nat.reduceEqDiff, Nat.reduceAdd, Nat.reduceSub, Nat.reduceMul, Nat.reduceLT, Nat.reduceLeDiff, Nat.reduceMod, Nat.reduceDiv, Int.reduceToNat, Int.reduceLT, Int.reduceLE, Bool.not_true, Bool.not_false, reduceIte, Int.reduceEq, Int.reduceBEq, Int.reduceBNe, Int.reduceGT, Int.reduceGE, Int.reduceNeg, Int.reduceAdd, Int.reduceSub, Nat.reduceBEq, decide_true, decide_false, undef, beq_self_eq_true, bne_self_eq_false, Bool.and_true, Bool.true_and, Bool.and_false, Bool.false_and, Bool.or_true, Bool.true_or, Bool.or_false, Bool.false_or, h1]
      refine ACallL.quiet1 (ask_ok false 1) rfl rfl rfl ?_
      simp only [askO, go_sem, Nat.reduceEqDiff, Nat.reduceAdd, Nat.reduceSub, Nat.reduceMul, Nat.reduceLT, Nat.reduceLeDiff, Nat.reduceMod, Nat.reduceDiv, Int.reduceToNat, Int.reduceLT, Int.reduceLE, Bool.not_true, Bool.not_false, reduceIte, Int.reduceEq, Int.reduceBEq, Int.reduceBNe, Int.reduceGT, Int.reduceGE, Int.reduceNeg, Int.reduceAdd, Int.reduceSub, Nat.reduceBEq, decide_true, decide_false, undef, beq_self_eq_true, bne_self_eq_false, Bool.and_true, Bool.true_and, Bool.and_false, Bool.false_and, Bool.or_true, Bool.true_or, Bool.or_false, Bool.false_or]
      exact finL_pan [] ⟨rfl, rfl, rfl, rfl, res_mk (bad fun k => by have := k.low; simp at h1; omega).symm⟩
    simp only [go_sem, Nat.reduceEqDiff, Nat.reduceAdd, Nat.reduceSub, Nat.reduceMul, Nat.reduceLT, Nat.reduceLeDiff, Nat.reduceMod, Nat.reduceDiv, Int.reduceToNat, Int.reduceLT, Int.reduceLE, Bool.not_true, Bool.not_false, reduceIte, Int.reduceEq, Int.reduceBEq, Int.reduceBNe, Int.reduceGT, Int.reduceGE, Int.reduceNeg, Int.reduceAdd, Int.reduceSub, Nat.reduceBEq, decide_true, decide_false, undef, beq_self_eq_true, bne_self_eq_false, Bool.and_true, Bool.true_and, Bool.and_false, Bool.false_and, Bool.or_true, Bool.true_or, Bool.or_false, Bool.false_or, h1]
    refine BrL.mk (fun h2 => ?_) (fun h2 => ?_)
    rotate_left
    · simp only [go_sem, Nat.reduceEqDiff, Nat.reduceAdd, Nat.reduceSub, Nat.reduceMul, Nat.reduceLT, Nat.reduceLeDiff, Nat.reduceMod, Nat.reduceDiv, Int.reduceToNat, Int.reduceLT, Int.reduceLE, Bool.not_true, Bool.not_false, reduceIte, Int.reduceEq, Int.reduceBEq, Int.reduceBNe, Int.reduceGT, Int.reduceGE, Int.reduceNeg, Int.reduceAdd, Int.reduceSub, Nat.reduceBEq, decide_true, decide_false, undef, beq_self_eq_true, bne_self_eq_false, Bool.and_true, Bool.true_and, Bool.and_false, Bool.false_and, Bool.or_true, Bool.true_or, Bool.or_false, Bool.false_or, h2]
      refine ACallL.quiet1 (ask_ok false 1) rfl rfl rfl ?_
      simp only [askO, go_sem, Nat.reduceEqDiff, Nat.reduceAdd, Nat.reduceSub, Nat.reduceMul, Nat.reduceLT, Nat.reduceLeDiff, Nat.reduceMod, Nat.reduceDiv, Int.reduceToNat, Int.reduceLT, Int.reduceLE, Bool.not_true, Bool.not_false, reduceIte, Int.reduceEq, Int.reduceBEq, Int.reduceBNe, Int.reduceGT, Int.reduceGE, Int.reduceNeg, Int.reduceAdd, Int.reduceSub, Nat.reduceBEq, decide_true, decide_false, undef, beq_self_eq_true, bne_self_eq_false, Bool.and_true, Bool.true_and, Bool.and_false, Bool.false_and, Bool.or_true, Bool.true_or, Bool.or_false, Bool.false_or]
      exact finL_pan [] ⟨rfl, rfl, rfl, rfl, res_mk (bad fun k => by have := k.lh; simp at h2; omega).symm⟩
    simp only [go_sem, Nat.reduceEqDiff, Nat.reduceAdd, Nat.reduceSub, Nat.reduceMul, Nat.reduceLT, Nat.reduceLeDiff, Nat.reduceMod, Nat.reduceDiv, Int.reduceToNat, Int.reduceLT, Int.reduceLE, Bool.not_true, Bool.not_false, reduceIte, Int.reduceEq, Int.reduceBEq, Int.reduceBNe, Int.reduceGT, Int.reduceGE, Int.reduceNeg, Int.reduceAdd, Int.reduceSub, Nat.reduceBEq, decide_true, decide_false, undef, beq_self_eq_true, bne_self_eq_false, Bool.and_true, Bool.true_and, Bool.and_false, Bool.false_and, Bool.or_true, Bool.true_or, Bool.or_false, Bool.false_or, h2]
    refine BrL.mk (fun h3 => ?_) (fun h3 => ?_)
    rotate_left
    · simp only [go_sem, Nat.reduceEqDiff, Nat.reduceAdd, Nat.reduceSub, Nat.reduceMul, Nat.reduceLT, Nat.reduceLeDiff, Nat.reduceMod, Nat.reduceDiv, Int.reduceToNat, Int.reduceLT, Int.reduceLE, Bool.not_true, Bool.not_false, reduceIte, Int.reduceEq, Int.reduceBEq, Int.reduceBNe, Int.reduceGT, Int.reduceGE, Int.reduceNeg, Int.reduceAdd, Int.reduceSub, Nat.reduceBEq, decide_true, decide_false, undef, beq_self_eq_true, bne_self_eq_false, Bool.and_true, Bool.true_and, Bool.and_false, Bool.false_and, Bool.or_true, Bool.true_or, Bool.or_false, Bool.false_or, h3]
      refine ACallL.quiet1 (ask_ok false 1) rfl rfl rfl ?_
      simp only [askO, go_sem, Nat.reduceEqDiff, Nat.reduceAdd, Nat.reduceSub, Nat.reduceMul, Nat.reduceLT, Nat.reduceLeDiff, Nat.reduceMod, Nat.reduceDiv, Int.reduceToNat, Int.reduceLT, Int.reduceLE, Bool.not_true, Bool.not_false, reduceIte, Int.reduceEq, Int.reduceBEq, Int.reduceBNe, Int.reduceGT, Int.reduceGE, Int.reduceNeg, Int.reduceAdd, Int.reduceSub, Nat.reduceBEq, decide_true, decide_false, undef, beq_self_eq_true, bne_self_eq_false, Bool.and_true, Bool.true_and, Bool.and_false, Bool.false_and, Bool.or_true, Bool.true_or, Bool.or_false, Bool.false_or]
      exact finL_pan [] ⟨rfl, rfl, rfl, rfl, res_mk (bad fun k => by have := k.high; simp at h3; omega).symm⟩
    simp only [go_sem, Nat.reduceEqDiff, Nat.reduceAdd, Nat.reduceSub, Nat.reduceMul, Nat.reduceLT, Nat.reduceLeDiff, Nat.reduceMod, Nat.reduceDiv, Int.reduceToNat, Int.reduceLT, Int.reduceLE, Bool.not_true, Bool.not_false, reduceIte, Int.reduceEq, Int.reduceBEq, Int.reduceBNe, Int.reduceGT, Int.reduceGE, Int.reduceNeg, Int.reduceAdd, Int.reduceSub, Nat.reduceBEq, decide_true, decide_false, undef, beq_self_eq_true, bne_self_eq_false, Bool.and_true, Bool.true_and, Bool.and_false, Bool.false_and, Bool.or_true, Bool.true_or, Bool.or_false, Bool.false_or, h3]
    refine ACallL.quiet1 (within_ok _ _ _) rfl rfl rfl ?_
    simp only [go_sem, Nat.reduceEqDiff, Nat.reduceAdd, Nat.reduceSub, Nat.reduceMul, Nat.reduceLT, Nat.reduceLeDiff, Nat.reduceMod, Nat.reduceDiv, Int.reduceToNat, Int.reduceLT, Int.reduceLE, Bool.not_true, Bool.not_false, reduceIte, Int.reduceEq, Int.reduceBEq, Int.reduceBNe, Int.reduceGT, Int.reduceGE, Int.reduceNeg, Int.reduceAdd, Int.reduceSub, Nat.reduceBEq, decide_true, decide_false, undef, beq_self_eq_true, bne_self_eq_false, Bool.and_true, Bool.true_and, Bool.and_false, Bool.false_and, Bool.or_true, Bool.true_or, Bool.or_false, Bool.false_or]
    refine BrL.mk (fun h4 => ?_) (fun h4 => ?_)
    rotate_left
    · simp only [go_sem, Nat.reduceEqDiff, Nat.reduceAdd, Nat.reduceSub, Nat.reduceMul, Nat.reduceLT, Nat.reduceLeDiff, Nat.reduceMod, Nat.reduceDiv, Int.reduceToNat, Int.reduceLT, Int.reduceLE, Bool.not_true, Bool.not_false, reduceIte, Int.reduceEq, Int.reduceBEq, Int.reduceBNe, Int.reduceGT, Int.reduceGE, Int.reduceNeg, Int.reduceAdd, Int.reduceSub, Nat.reduceBEq, decide_true, decide_false, undef, beq_self_eq_true, bne_self_eq_false, Bool.and_true, Bool.true_and, Bool.and_false, Bool.false_and, Bool.or_true, Bool.true_or, Bool.or_false, Bool.false_or, h4]
      refine ACallL.quiet1 (ask_ok false 1) rfl rfl rfl ?_
      simp only [askO, go_sem, Nat.reduceEqDiff, Nat.reduceAdd, Nat.reduceSub, Nat.reduceMul, Nat.reduceLT, Nat.reduceLeDiff, Nat.reduceMod, Nat.reduceDiv, Int.reduceToNat, Int.reduceLT, Int.reduceLE, Bool.not_true, Bool.not_false, reduceIte, Int.reduceEq, Int.reduceBEq, Int.reduceBNe, Int.reduceGT, Int.reduceGE, Int.reduceNeg, Int.reduceAdd, Int.reduceSub, Nat.reduceBEq, decide_true, decide_false, undef, beq_self_eq_true, bne_self_eq_false, Bool.and_true, Bool.true_and, Bool.and_false, Bool.false_and, Bool.or_true, Bool.true_or, Bool.or_false, Bool.false_or]
      exact finL_pan [] ⟨rfl, rfl, rfl, rfl, res_mk (bad fun k => by have := k.quiet; simp [wI] at h4; omega).symm⟩
    simp only [go_sem, Nat.reduceEqDiff, Nat.reduceAdd, Nat.reduceSub, Nat.reduceMul, Nat.reduceLT, Nat.reduceLeDiff, Nat.reduceMod, Nat.reduceDiv, Int.reduceToNat, Int.reduceLT, Int.reduceLE, Bool.not_true, Bool.not_false, reduceIte, Int.reduceEq, Int.reduceBEq, Int.reduceBNe, Int.reduceGT, Int.reduceGE, Int.reduceNeg, Int.reduceAdd, Int.reduceSub, Nat.reduceBEq, decide_true, decide_false, undef, beq_self_eq_true, bne_self_eq_false, Bool.and_true, Bool.true_and, Bool.and_false, Bool.false_and, Bool.or_true, Bool.true_or, Bool.or_false, Bool.false_or, h4, List.length_map]
    refine BrL.mk (fun h5 => ?_) (fun h5 => ?_)
    rotate_left
    · simp only [go_sem, Nat.reduceEqDiff, Nat.reduceAdd, Nat.reduceSub, Nat.reduceMul, Nat.reduceLT, Nat.reduceLeDiff, Nat.reduceMod, Nat.reduceDiv, Int.reduceToNat, Int.reduceLT, Int.reduceLE, Bool.not_true, Bool.not_false, reduceIte, Int.reduceEq, Int.reduceBEq, Int.reduceBNe, Int.reduceGT, Int.reduceGE, Int.reduceNeg, Int.reduceAdd, Int.reduceSub, Nat.reduceBEq, decide_true, decide_false, undef, beq_self_eq_true, bne_self_eq_false, Bool.and_true, Bool.true_and, Bool.and_false, Bool.false_and, Bool.or_true, Bool.true_or, Bool.or_false, Bool.false_or, h5]
      refine ACallL.quiet1 (ask_ok false 1) rfl rfl rfl ?_
      simp only [askO, go_sem, Nat.reduceEqDiff, Nat.reduceAdd, Nat.reduceSub, Nat.reduceMul, Nat.reduceLT, Nat.reduceLeDiff, Nat.reduceMod, Nat.reduceDiv, Int.reduceToNat, Int.reduceLT, Int.reduceLE, Bool.not_true, Bool.not_false, reduceIte, Int.reduceEq, Int.reduceBEq, Int.reduceBNe, Int.reduceGT, Int.reduceGE, Int.reduceNeg, Int.reduceAdd, Int.reduceSub, Nat.reduceBEq, decide_true, decide_false, undef, beq_self_eq_true, bne_self_eq_false, Bool.and_true, Bool.true_and, Bool.and_false, Bool.false_and, Bool.or_true, Bool.true_or, Bool.or_false, Bool.false_or]
      exact finL_pan [] ⟨rfl, rfl, rfl, rfl, res_mk (bad fun k => by have := k.nh; simp at h5; omega).symm⟩
    simp only [go_sem, Nat.reduceEqDiff, Nat.reduceAdd, Nat.reduceSub, Nat.reduceMul, Nat.reduceLT, Nat.reduceLeDiff, Nat.reduceMod, Nat.reduceDiv, Int.reduceToNat, Int.reduceLT, Int.reduceLE, Bool.not_true, Bool.not_false, reduceIte, Int.reduceEq, Int.reduceBEq, Int.reduceBNe, Int.reduceGT, Int.reduceGE, Int.reduceNeg, Int.reduceAdd, Int.reduceSub, Nat.reduceBEq, decide_true, decide_false, undef, beq_self_eq_true, bne_self_eq_false, Bool.and_true, Bool.true_and, Bool.and_false, Bool.false_and, Bool.or_true, Bool.true_or, Bool.or_false, Bool.false_or, h5, List.length_map]
    refine ACallL.quiet1 (ask_ok _ 1) rfl rfl (by simp only [askO]; split <;> rfl) ?_
    cases h6 : decide ((f.ss.length : Int) ≤ 8)
    · simp only [askO, go_sem, Nat.reduceEqDiff, Nat.reduceAdd, Nat.reduceSub, Nat.reduceMul, Nat.reduceLT, Nat.reduceLeDiff, Nat.reduceMod, Nat.reduceDiv, Int.reduceToNat, Int.reduceLT, Int.reduceLE, Bool.not_true, Bool.not_false, reduceIte, Int.reduceEq, Int.reduceBEq, Int.reduceBNe, Int.reduceGT, Int.reduceGE, Int.reduceNeg, Int.reduceAdd, Int.reduceSub, Nat.reduceBEq, decide_true, decide_false, undef, beq_self_eq_true, bne_self_eq_false, Bool.and_true, Bool.true_and, Bool.and_false, Bool.false_and, Bool.or_true, Bool.true_or, Bool.or_false, Bool.false_or]
      exact finL_pan [] ⟨rfl, rfl, rfl, rfl, res_mk (bad fun k => by have := k.ns; simp at h6; omega).symm⟩
    · simp only [askO, go_sem, Nat.reduceEqDiff, Nat.reduceAdd, Nat.reduceSub, Nat.reduceMul, Nat.reduceLT, Nat.reduceLeDiff, Nat.reduceMod, Nat.reduceDiv, Int.reduceToNat, Int.reduceLT, Int.reduceLE, Bool.not_true, Bool.not_false, reduceIte, Int.reduceEq, Int.reduceBEq, Int.reduceBNe, Int.reduceGT, Int.reduceGE, Int.reduceNeg, Int.reduceAdd, Int.reduceSub, Nat.reduceBEq, decide_true, decide_false, undef, beq_self_eq_true, bne_self_eq_false, Bool.and_true, Bool.true_and, Bool.and_false, Bool.false_and, Bool.or_true, Bool.true_or, Bool.or_false, Bool.false_or]
      refine ⟨by simpa using h1, by simpa using h2, by simpa using h3, by simpa [wI] using h4, ?_, ?_⟩
      · simp at h5; omega
      · simp at h6; omega
  rintro ⟨env, σ, df, k⟩ ⟨v1, v2, v3, v4, v5, v6, q2, q1, hσ, hdf, hk⟩
  simp only at q2 q1 hσ hdf hk
  subst hσ hdf hk
  -- the hours
  refine awpL_chop 1 (c1 := ?b1) (c2 := ?b2) (fun s => (∀ h ∈ f.hs, Hr.ok h = true) ∧ lk s.env 2 = .ptr 0 0 ∧ lk s.env 1 = .t (vb is) ∧ s.σ = [.cells ((fl5 f).map .t)] ∧ s.df = [] ∧ s.k = 0) ?hc2 ?_ ?_
  case hc2 => simp only [chop]; rfl
  · unfold fl5
    simp only [go_sem, Nat.reduceEqDiff, Nat.reduceAdd, Nat.reduceSub, Nat.reduceMul, Nat.reduceLT, Nat.reduceLeDiff, Nat.reduceMod, Nat.reduceDiv, Int.reduceToNat, Int.reduceLT, Int.reduceLE, Bool.not_true, Bool.not_false, reduceIte, Int.reduceEq, Int.reduceBEq, Int.reduceBNe, Int.reduceGT, Int.reduceGE, Int.reduceNeg, Int.reduceAdd, Int.reduceSub, Nat.reduceBEq, decide_true, decide_false, undef, beq_self_eq_true, bne_self_eq_false, Bool.and_true, Bool.true_and, Bool.and_false, Bool.false_and, Bool.or_true, Bool.true_or, Bool.or_false, Bool.false_or, q2, List.length_map]
    refine awpL_for (i := 48) (L := 47) f.hs.length (fun k s => (∀ h ∈ f.hs.take k, Hr.ok h = true) ∧ s = { env := [(48, .t (vi k)), (47, .t (vi f.hs.length)), (46, .t (.slice 3 (f.hs.map tHr))), (2, .ptr 0 0), (1, .t (vb is))], σ := [.cells ((fl5 f).map .t)] }) ?_ ⟨_, Sub.gc [0] [48, 47, 46, 2, 1] rfl rfl, by simp, ?_⟩ ?_ ?_
    · rintro k s ⟨_, rfl⟩; exact ⟨rfl, rfl⟩
    · exact St.gc_mk (by simp only [List.map_cons, List.map_nil, lk, Nat.reduceEqDiff, reduceIte, q2, q1]; rfl) rfl rfl rfl
    · rintro k s hk ⟨hK, rfl⟩
      have hg : f.hs[k]? = some f.hs[k] := List.getElem?_eq_getElem hk
      have htk : f.hs.take (k + 1) = f.hs.take k ++ [f.hs[k]] := by rw [List.take_add_one, hg]; rfl
      have hmem : f.hs[k] ∈ f.hs := List.getElem_mem hk
      have hw : IntKind.i64.wrap ((k : Int) + 1) = ((k + 1 : Nat) : Int) := by rw [wrap_id (by omega) (by omega)]; omega
      generalize f.hs[k] = x at *
      obtain ⟨lo, hi, th⟩ := x
      have bad : Hr.ok ⟨lo, hi, th⟩ = false → openO f is = .pan (rfs 1) := fun h => by
        have : f.ok = false := by
          rw [← Bool.not_eq_true, f.ok_iff]
          intro k
          have := k.hs _ hmem
          rw [← Bool.not_eq_true] at h
          apply h
          simp only at this
          simp only [Hr.ok, wI, Bool.and_eq_true, decide_eq_true_eq]
          omega
        simp only [openO, this]
        rfl
      simp only [fl5, go_sem, Nat.reduceEqDiff, Nat.reduceAdd, Nat.reduceSub, Nat.reduceMul, Nat.reduceLT, Nat.reduceLeDiff, Nat.reduceMod, Nat.reduceDiv, Int.reduceToNat, Int.reduceLT, Int.reduceLE, Bool.not_true, Bool.not_false, reduceIte, Int.reduceEq, Int.reduceBEq, Int.reduceBNe, Int.reduceGT, Int.reduceGE, Int.reduceNeg, Int.reduceAdd, Int.reduceSub, Nat.reduceBEq, decide_true, decide_false, undef, beq_self_eq_true, bne_self_eq_false, Bool.and_true, Bool.true_and, Bool.and_false, Bool.false_and, Bool.or_true, Bool.true_or, Bool.or_false, Bool.false_or, List.length_map, List.getElem?_map, hg, tHr]
      refine BrL.mk (fun h1 => ?_) (fun h1 => ?_)
      rotate_left
      · simp only [go_sem, Nat.reduceEqDiff, Nat.reduceAdd, Nat.reduceSub, Nat.reduceMul, Nat.reduceLT, Nat.reduceLeDiff, Nat.reduceMod, Nat.reduceDiv, Int.reduceToNat, Int.reduceLT, Int.reduceLE, Bool.not_true, Bool.not_false, reduceIte, Int.reduceEq, Int.reduceBEq, Int.reduceBNe, Int.reduceGT, Int.reduceGE, Int.reduceNeg, Int.reduceAdd, Int.reduceSub, Nat.reduceBEq, decide_true, decide_false, undef, beq_self_eq_true, bne_self_eq_false, Bool.and_true, Bool.true_and, Bool.and_false, Bool.false_and, Bool.or_true, Bool.true_or, Bool.or_false, Bool.false_or, h1]
        refine ACallL.quiet1 (ask_ok false 1) rfl rfl rfl ?_
        simp only [askO, go_sem, Nat.reduceEqDiff, Nat.reduceAdd, Nat.reduceSub, Nat.reduceMul, Nat.reduceLT, Nat.reduceLeDiff, Nat.reduceMod, Nat.reduceDiv, Int.reduceToNat, Int.reduceLT, Int.reduceLE, Bool.not_true, Bool.not_false, reduceIte, Int.reduceEq, Int.reduceBEq, Int.reduceBNe, Int.reduceGT, Int.reduceGE, Int.reduceNeg, Int.reduceAdd, Int.reduceSub, Nat.reduceBEq, decide_true, decide_false, undef, beq_self_eq_true, bne_self_eq_false, Bool.and_true, Bool.true_and, Bool.and_false, Bool.false_and, Bool.or_true, Bool.true_or, Bool.or_false, Bool.false_or]
        exact finL_pan [] ⟨rfl, rfl, rfl, rfl, res_mk (bad (by simp only [Hr.ok, h1, Bool.false_and])).symm⟩
      simp only [go_sem, Nat.reduceEqDiff, Nat.reduceAdd, Nat.reduceSub, Nat.reduceMul, Nat.reduceLT, Nat.reduceLeDiff, Nat.reduceMod, Nat.reduceDiv, Int.reduceToNat, Int.reduceLT, Int.reduceLE, Bool.not_true, Bool.not_false, reduceIte, Int.reduceEq, Int.reduceBEq, Int.reduceBNe, Int.reduceGT, Int.reduceGE, Int.reduceNeg, Int.reduceAdd, Int.reduceSub, Nat.reduceBEq, decide_true, decide_false, undef, beq_self_eq_true, bne_self_eq_false, Bool.and_true, Bool.true_and, Bool.and_false, Bool.false_and, Bool.or_true, Bool.true_or, Bool.or_false, Bool.false_or, h1]
      refine BrL.mk (fun h2 => ?_) (fun h2 => ?_)
      rotate_left
      · simp only [go_sem, Nat.reduceEqDiff, Nat.reduceAdd, Nat.reduceSub, Nat.reduceMul, Nat.reduceLT, Nat.reduceLeDiff, Nat.reduceMod, Nat.reduceDiv, Int.reduceToNat, Int.reduceLT, Int.reduceLE, Bool.not_true, Bool.not_false, reduceIte, Int.reduceEq, Int.reduceBEq, Int.reduceBNe, Int.reduceGT, Int.reduceGE, Int.reduceNeg, Int.reduceAdd, Int.reduceSub, Nat.reduceBEq, decide_true, decide_false, undef, beq_self_eq_true, bne_self_eq_false, Bool.and_true, Bool.true_and, Bool.and_false, Bool.false_and, Bool.or_true, Bool.true_or, Bool.or_false, Bool.false_or, h2]
        refine ACallL.quiet1 (ask_ok false 1) rfl rfl rfl ?_
        simp only [askO, go_sem, Nat.reduceEqDiff, Nat.reduceAdd, Nat.reduceSub, Nat.reduceMul, Nat.reduceLT, Nat.reduceLeDiff, Nat.reduceMod, Nat.reduceDiv, Int.reduceToNat, Int.reduceLT, Int.reduceLE, Bool.not_true, Bool.not_false, reduceIte, Int.reduceEq, Int.reduceBEq, Int.reduceBNe, Int.reduceGT, Int.reduceGE, Int.reduceNeg, Int.reduceAdd, Int.reduceSub, Nat.reduceBEq, decide_true, decide_false, undef, beq_self_eq_true, bne_self_eq_false, Bool.and_true, Bool.true_and, Bool.and_false, Bool.false_and, Bool.or_true, Bool.true_or, Bool.or_false, Bool.false_or]
        exact finL_pan [] ⟨rfl, rfl, rfl, rfl, res_mk (bad (by simp only [Hr.ok, h1, h2, Bool.and_false, Bool.false_and])).symm⟩
      simp only [go_sem, Nat.reduceEqDiff, Nat.reduceAdd, Nat.reduceSub, Nat.reduceMul, Nat.reduceLT, Nat.reduceLeDiff, Nat.reduceMod, Nat.reduceDiv, Int.reduceToNat, Int.reduceLT, Int.reduceLE, Bool.not_true, Bool.not_false, reduceIte, Int.reduceEq, Int.reduceBEq, Int.reduceBNe, Int.reduceGT, Int.reduceGE, Int.reduceNeg, Int.reduceAdd, Int.reduceSub, Nat.reduceBEq, decide_true, decide_false, undef, beq_self_eq_true, bne_self_eq_false, Bool.and_true, Bool.true_and, Bool.and_false, Bool.false_and, Bool.or_true, Bool.true_or, Bool.or_false, Bool.false_or, h2]
      refine BrL.mk (fun h3 => ?_) (fun h3 => ?_)
      rotate_left
      · simp only [go_sem, Nat.reduceEqDiff, Nat.reduceAdd, Nat.reduceSub, Nat.reduceMul, Nat.reduceLT, Nat.reduceLeDiff, Nat.reduceMod, Nat.reduceDiv, Int.reduceToNat, Int.reduceLT, Int.reduceLE, Bool.not_true, Bool.not_false, reduceIte, Int.reduceEq, Int.reduceBEq, Int.reduceBNe, Int.reduceGT, Int.reduceGE, Int.reduceNeg, Int.reduceAdd, Int.reduceSub, Nat.reduceBEq, decide_true, decide_false, undef, beq_self_eq_true, bne_self_eq_false, Bool.and_true, Bool.true_and, Bool.and_false, Bool.false_and, Bool.or_true, Bool.true_or, Bool.or_false, Bool.false_or, h3]
        refine ACallL.quiet1 (ask_ok false 1) rfl rfl rfl ?_
        simp only [askO, go_sem, Nat.reduceEqDiff, Nat.reduceAdd, Nat.reduceSub, Nat.reduceMul, Nat.reduceLT, Nat.reduceLeDiff, Nat.reduceMod, Nat.reduceDiv, Int.reduceToNat, Int.reduceLT, Int.reduceLE, Bool.not_true, Bool.not_false, reduceIte, Int.reduceEq, Int.reduceBEq, Int.reduceBNe, Int.reduceGT, Int.reduceGE, Int.reduceNeg, Int.reduceAdd, Int.reduceSub, Nat.reduceBEq, decide_true, decide_false, undef, beq_self_eq_true, bne_self_eq_false, Bool.and_true, Bool.true_and, Bool.and_false, Bool.false_and, Bool.or_true, Bool.true_or, Bool.or_false, Bool.false_or]
        exact finL_pan [] ⟨rfl, rfl, rfl, rfl, res_mk (bad (by simp only [Hr.ok, h1, h2, h3, Bool.and_false, Bool.false_and])).symm⟩
      simp only [go_sem, Nat.reduceEqDiff, Nat.reduceAdd, Nat.reduceSub, Nat.reduceMul, Nat.reduceLT, Nat.reduceLeDiff, Nat.reduceMod, Nat.reduceDiv, Int.reduceToNat, Int.reduceLT, Int.reduceLE, Bool.not_true, Bool.not_false, reduceIte, Int.reduceEq, Int.reduceBEq, Int.reduceBNe, Int.reduceGT, Int.reduceGE, Int.reduceNeg, Int.reduceAdd, Int.reduceSub, Nat.reduceBEq, decide_true, decide_false, undef, beq_self_eq_true, bne_self_eq_false, Bool.and_true, Bool.true_and, Bool.and_false, Bool.false_and, Bool.or_true, Bool.true_or, Bool.or_false, Bool.false_or, h3]
      refine ACallL.quiet1 (within_ok _ _ _) rfl rfl rfl ?_
      simp only [go_sem, Nat.reduceEqDiff, Nat.reduceAdd, Nat.reduceSub, Nat.reduceMul, Nat.reduceLT, Nat.reduceLeDiff, Nat.reduceMod, Nat.reduceDiv, Int.reduceToNat, Int.reduceLT, Int.reduceLE, Bool.not_true, Bool.not_false, reduceIte, Int.reduceEq, Int.reduceBEq, Int.reduceBNe, Int.reduceGT, Int.reduceGE, Int.reduceNeg, Int.reduceAdd, Int.reduceSub, Nat.reduceBEq, decide_true, decide_false, undef, beq_self_eq_true, bne_self_eq_false, Bool.and_true, Bool.true_and, Bool.and_false, Bool.false_and, Bool.or_true, Bool.true_or, Bool.or_false, Bool.false_or]
      refine ACallL.quiet1 (ask_ok _ 1) rfl rfl (by simp only [askO]; split <;> rfl) ?_
      cases h4 : wI th 0 2
      · simp only [askO, go_sem, Nat.reduceEqDiff, Nat.reduceAdd, Nat.reduceSub, Nat.reduceMul, Nat.reduceLT, Nat.reduceLeDiff, Nat.reduceMod, Nat.reduceDiv, Int.reduceToNat, Int.reduceLT, Int.reduceLE, Bool.not_true, Bool.not_false, reduceIte, Int.reduceEq, Int.reduceBEq, Int.reduceBNe, Int.reduceGT, Int.reduceGE, Int.reduceNeg, Int.reduceAdd, Int.reduceSub, Nat.reduceBEq, decide_true, decide_false, undef, beq_self_eq_true, bne_self_eq_false, Bool.and_true, Bool.true_and, Bool.and_false, Bool.false_and, Bool.or_true, Bool.true_or, Bool.or_false, Bool.false_or]
        exact finL_pan [] ⟨rfl, rfl, rfl, rfl, res_mk (bad (by simp only [Hr.ok, h4, Bool.and_false])).symm⟩
      · simp only [askO, go_sem, Nat.reduceEqDiff, Nat.reduceAdd, Nat.reduceSub, Nat.reduceMul, Nat.reduceLT, Nat.reduceLeDiff, Nat.reduceMod, Nat.reduceDiv, Int.reduceToNat, Int.reduceLT, Int.reduceLE, Bool.not_true, Bool.not_false, reduceIte, Int.reduceEq, Int.reduceBEq, Int.reduceBNe, Int.reduceGT, Int.reduceGE, Int.reduceNeg, Int.reduceAdd, Int.reduceSub, Nat.reduceBEq, decide_true, decide_false, undef, beq_self_eq_true, bne_self_eq_false, Bool.and_true, Bool.true_and, Bool.and_false, Bool.false_and, Bool.or_true, Bool.true_or, Bool.or_false, Bool.false_or, hw]
        refine ⟨_, Sub.gc [0] [48, 47, 46, 2, 1] rfl rfl, ?_, rfl⟩
        intro h hh
        rw [htk] at hh
        rcases List.mem_append.1 hh with hh | hh
        · exact hK h hh
        · simp at hh
          subst hh
          simp only [Hr.ok, h1, h2, h3, h4, Bool.and_true]
    · rintro s ⟨hK, rfl⟩
      simp only [go_sem, Nat.reduceEqDiff, Nat.reduceAdd, Nat.reduceSub, Nat.reduceMul, Nat.reduceLT, Nat.reduceLeDiff, Nat.reduceMod, Nat.reduceDiv, Int.reduceToNat, Int.reduceLT, Int.reduceLE, Bool.not_true, Bool.not_false, reduceIte, Int.reduceEq, Int.reduceBEq, Int.reduceBNe, Int.reduceGT, Int.reduceGE, Int.reduceNeg, Int.reduceAdd, Int.reduceSub, Nat.reduceBEq, decide_true, decide_false, undef, beq_self_eq_true, bne_self_eq_false, Bool.and_true, Bool.true_and, Bool.and_false, Bool.false_and, Bool.or_true, Bool.true_or, Bool.or_false, Bool.false_or]
      exact ⟨by simpa using hK, rfl⟩
  rintro ⟨env, σ, df, k⟩ ⟨v7, q2, q1, hσ, hdf, hk⟩
  simp only at q2 q1 hσ hdf hk
  subst hσ hdf hk
  -- what was seen
  refine awpL_chop 1 (c1 := ?d1) (c2 := ?d2) (fun s => (∀ s ∈ f.ss, wI s.h 0 (f.hs.length - 1) = true) ∧ lk s.env 2 = .ptr 0 0 ∧ lk s.env 1 = .t (vb is) ∧ s.σ = [.cells ((fl5 f).map .t)] ∧ s.df = [] ∧ s.k = 0) ?hc3 ?_ ?_
  case hc3 => simp only [chop]; rfl
  · unfold fl5
    simp only [go_sem, Nat.reduceEqDiff, Nat.reduceAdd, Nat.reduceSub, Nat.reduceMul, Nat.reduceLT, Nat.reduceLeDiff, Nat.reduceMod, Nat.reduceDiv, Int.reduceToNat, Int.reduceLT, Int.reduceLE, Bool.not_true, Bool.not_false, reduceIte, Int.reduceEq, Int.reduceBEq, Int.reduceBNe, Int.reduceGT, Int.reduceGE, Int.reduceNeg, Int.reduceAdd, Int.reduceSub, Nat.reduceBEq, decide_true, decide_false, undef, beq_self_eq_true, bne_self_eq_false, Bool.and_true, Bool.true_and, Bool.and_false, Bool.false_and, Bool.or_true, Bool.true_or, Bool.or_false, Bool.false_or, q2, List.length_map]
    refine awpL_for (i := 81) (L := 80) f.ss.length (fun k s => (∀ s ∈ f.ss.take k, wI s.h 0 (f.hs.length - 1) = true) ∧ s = { env := [(81, .t (vi k)), (80, .t (vi f.ss.length)), (79, .t (.slice 2 (f.ss.map tSn))), (2, .ptr 0 0), (1, .t (vb is))], σ := [.cells ((fl5 f).map .t)] }) ?_ ⟨_, Sub.gc [0] [81, 80, 79, 2, 1] rfl rfl, by simp, ?_⟩ ?_ ?_
    · rintro k s ⟨_, rfl⟩; exact ⟨rfl, rfl⟩
    · exact St.gc_mk (by simp only [List.map_cons, List.map_nil, lk, Nat.reduceEqDiff, reduceIte, q2, q1]; rfl) rfl rfl rfl
    · rintro k s hk ⟨hK, rfl⟩
      have hg : f.ss[k]? = some f.ss[k] := List.getElem?_eq_getElem hk
      have htk : f.ss.take (k + 1) = f.ss.take k ++ [f.ss[k]] := by rw [List.take_add_one, hg]; rfl
      have hmem : f.ss[k] ∈ f.ss := List.getElem_mem hk
      have hw : IntKind.i64.wrap ((k : Int) + 1) = ((k + 1 : Nat) : Int) := by rw [wrap_id (by omega) (by omega)]; omega
      have hw2 : IntKind.i64.wrap ((f.hs.length : Int) - 1) = f.hs.length - 1 := wrap_id (by omega) (by omega)
      generalize f.ss[k] = x at *
      obtain ⟨h, up⟩ := x
      have bad : wI h 0 (f.hs.length - 1) = false → openO f is = .pan (rfs 1) := fun hb => by
        have : f.ok = false := by
          rw [← Bool.not_eq_true, f.ok_iff]
          intro k
          have := k.ss _ hmem
          rw [← Bool.not_eq_true] at hb
          apply hb
          simp only at this
          simp only [wI, decide_eq_true_eq]
          omega
        simp only [openO, this]
        rfl
      simp only [fl5, go_sem, Nat.reduceEqDiff, Nat.reduceAdd, Nat.reduceSub, Nat.reduceMul, Nat.reduceLT, Nat.reduceLeDiff, Nat.reduceMod, Nat.reduceDiv, Int.reduceToNat, Int.reduceLT, Int.reduceLE, Bool.not_true, Bool.not_false, reduceIte, Int.reduceEq, Int.reduceBEq, Int.reduceBNe, Int.reduceGT, Int.reduceGE, Int.reduceNeg, Int.reduceAdd, Int.reduceSub, Nat.reduceBEq, decide_true, decide_false, undef, beq_self_eq_true, bne_self_eq_false, Bool.and_true, Bool.true_and, Bool.and_false, Bool.false_and, Bool.or_true, Bool.true_or, Bool.or_false, Bool.false_or, List.length_map, List.getElem?_map, hg, tSn, hw2]
      refine ACallL.quiet1 (within_ok _ _ _) rfl rfl rfl ?_
      simp only [go_sem, Nat.reduceEqDiff, Nat.reduceAdd, Nat.reduceSub, Nat.reduceMul, Nat.reduceLT, Nat.reduceLeDiff, Nat.reduceMod, Nat.reduceDiv, Int.reduceToNat, Int.reduceLT, Int.reduceLE, Bool.not_true, Bool.not_false, reduceIte, Int.reduceEq, Int.reduceBEq, Int.reduceBNe, Int.reduceGT, Int.reduceGE, Int.reduceNeg, Int.reduceAdd, Int.reduceSub, Nat.reduceBEq, decide_true, decide_false, undef, beq_self_eq_true, bne_self_eq_false, Bool.and_true, Bool.true_and, Bool.and_false, Bool.false_and, Bool.or_true, Bool.true_or, Bool.or_false, Bool.false_or]
      refine ACallL.quiet1 (ask_ok _ 1) rfl rfl (by simp only [askO]; split <;> rfl) ?_
      cases h4 : wI h 0 (f.hs.length - 1)
      · simp only [askO, go_sem, Nat.reduceEqDiff, Nat.reduceAdd, Nat.reduceSub, Nat.reduceMul, Nat.reduceLT, Nat.reduceLeDiff, Nat.reduceMod, Nat.reduceDiv, Int.reduceToNat, Int.reduceLT, Int.reduceLE, Bool.not_true, Bool.not_false, reduceIte, Int.reduceEq, Int.reduceBEq, Int.reduceBNe, Int.reduceGT, Int.reduceGE, Int.reduceNeg, Int.reduceAdd, Int.reduceSub, Nat.reduceBEq, decide_true, decide_false, undef, beq_self_eq_true, bne_self_eq_false, Bool.and_true, Bool.true_and, Bool.and_false, Bool.false_and, Bool.or_true, Bool.true_or, Bool.or_false, Bool.false_or]
        exact finL_pan [] ⟨rfl, rfl, rfl, rfl, res_mk (bad h4).symm⟩
      · simp only [askO, go_sem, Nat.reduceEqDiff, Nat.reduceAdd, Nat.reduceSub, Nat.reduceMul, Nat.reduceLT, Nat.reduceLeDiff, Nat.reduceMod, Nat.reduceDiv, Int.reduceToNat, Int.reduceLT, Int.reduceLE, Bool.not_true, Bool.not_false, reduceIte, Int.reduceEq, Int.reduceBEq, Int.reduceBNe, Int.reduceGT, Int.reduceGE, Int.reduceNeg, Int.reduceAdd, Int.reduceSub, Nat.reduceBEq, decide_true, decide_false, undef, beq_self_eq_true, bne_self_eq_false, Bool.and_true, Bool.true_and, Bool.and_false, Bool.false_and, Bool.or_true, Bool.true_or, Bool.or_false, Bool.false_or, hw]
        refine ⟨_, Sub.gc [0] [81, 80, 79, 2, 1] rfl rfl, ?_, rfl⟩
        intro h hh
        rw [htk] at hh
        rcases List.mem_append.1 hh with hh | hh
        · exact hK h hh
        · simp at hh
          subst hh
          exact h4
    · rintro s ⟨hK, rfl⟩
      simp only [go_sem, Nat.reduceEqDiff, Nat.reduceAdd, Nat.reduceSub, Nat.reduceMul, Nat.reduceLT, Nat.reduceLeDiff, Nat.reduceMod, Nat.reduceDiv, Int.reduceToNat, Int.reduceLT, Int.reduceLE, Bool.not_true, Bool.not_false, reduceIte, Int.reduceEq, Int.reduceBEq, Int.reduceBNe, Int.reduceGT, Int.reduceGE, Int.reduceNeg, Int.reduceAdd, Int.reduceSub, Nat.reduceBEq, decide_true, decide_false, undef, beq_self_eq_true, bne_self_eq_false, Bool.and_true, Bool.true_and, Bool.and_false, Bool.false_and, Bool.or_true, Bool.true_or, Bool.or_false, Bool.false_or]
      exact ⟨by simpa using hK, rfl⟩
  rintro ⟨env, σ, df, k⟩ ⟨v8, q2, q1, hσ, hdf, hk⟩
  simp only at q2 q1 hσ hdf hk
  subst hσ hdf hk
  have hok : f.ok = true := by
    unfold Fl.ok
    simp only [Bool.and_eq_true, decide_eq_true_eq, List.all_eq_true]
    exact ⟨⟨⟨⟨⟨⟨⟨v1, v2⟩, v3⟩, by simpa [wI] using v4⟩, v5⟩, v6⟩, v7⟩, v8⟩
  have hOK := (f.ok_iff).1 hok
  unfold fl5
  simp only [go_sem, Nat.reduceEqDiff, Nat.reduceAdd, Nat.reduceSub, Nat.reduceMul, Nat.reduceLT, Nat.reduceLeDiff, Nat.reduceMod, Nat.reduceDiv, Int.reduceToNat, Int.reduceLT, Int.reduceLE, Bool.not_true, Bool.not_false, reduceIte, Int.reduceEq, Int.reduceBEq, Int.reduceBNe, Int.reduceGT, Int.reduceGE, Int.reduceNeg, Int.reduceAdd, Int.reduceSub, Nat.reduceBEq, decide_true, decide_false, undef, beq_self_eq_true, bne_self_eq_false, Bool.and_true, Bool.true_and, Bool.and_false, Bool.false_and, Bool.or_true, Bool.true_or, Bool.or_false, Bool.false_or, q2, q1]
  refine ACallL.quiet1 (ask_ok _ 2) rfl rfl (by simp only [askO]; split <;> rfl) ?_
  cases is
  · simp only [askO, go_sem, Nat.reduceEqDiff, Nat.reduceAdd, Nat.reduceSub, Nat.reduceMul, Nat.reduceLT, Nat.reduceLeDiff, Nat.reduceMod, Nat.reduceDiv, Int.reduceToNat, Int.reduceLT, Int.reduceLE, Bool.not_true, Bool.not_false, reduceIte, Int.reduceEq, Int.reduceBEq, Int.reduceBNe, Int.reduceGT, Int.reduceGE, Int.reduceNeg, Int.reduceAdd, Int.reduceSub, Nat.reduceBEq, decide_true, decide_false, undef, beq_self_eq_true, bne_self_eq_false, Bool.and_true, Bool.true_and, Bool.and_false, Bool.false_and, Bool.or_true, Bool.true_or, Bool.or_false, Bool.false_or]
    exact finL_pan [] ⟨rfl, rfl, rfl, rfl, res_mk (by simp only [openO, hok]; rfl)⟩
  simp only [askO, go_sem, Nat.reduceEqDiff, Nat.reduceAdd, Nat.reduceSub, Nat.reduceMul, Nat.reduceLT, Nat.reduceLeDiff, Nat.reduceMod, Nat.reduceDiv, Int.reduceToNat, Int.reduceLT, Int.reduceLE, Bool.not_true, Bool.not_false, reduceIte, Int.reduceEq, Int.reduceBEq, Int.reduceBNe, Int.reduceGT, Int.reduceGE, Int.reduceNeg, Int.reduceAdd, Int.reduceSub, Nat.reduceBEq, decide_true, decide_false, undef, beq_self_eq_true, bne_self_eq_false, Bool.and_true, Bool.true_and, Bool.and_false, Bool.false_and, Bool.or_true, Bool.true_or, Bool.or_false, Bool.false_or, q2, List.length_map]
  refine awpL_for (i := 102) (L := 101) f.hs.length (fun k s => s = { env := [(102, .t (vi k)), (101, .t (vi f.hs.length)), (100, .t (.slice 3 (f.hs.map tHr))), (9, .ptr 1 0), (2, .ptr 0 0)], σ := [.cells ((fl5 f).map .t), .cells (cellsE f (fun i => if i < k then Kf f i else 0) (fun i => decide (i < k)) (fun i => decide (i < k)))] }) ?_ ⟨_, Sub.gc [0, 1] [102, 101, 100, 9, 2] rfl rfl, ?_⟩ ?_ ?_
  · rintro k s rfl; exact ⟨rfl, rfl⟩
  · exact St.gc_mk (by simp only [List.map_cons, List.map_nil, lk, Nat.reduceEqDiff, reduceIte, q2]; rfl) rfl rfl rfl
  · rintro k s hk rfl
    have hg : f.hs[k]? = some f.hs[k] := List.getElem?_eq_getElem hk
    have hx := hOK.hs _ (List.getElem_mem hk)
    have hw : IntKind.i64.wrap ((k : Int) + 1) = ((k + 1 : Nat) : Int) := by rw [wrap_id (by omega) (by omega)]; omega
    have hKk : Kf f k = kindsN f f.hs[k] := by unfold Kf; rw [hg]
    have e1 : (fun i => if i < k + 1 then Kf f i else 0) = upd (fun i => if i < k then Kf f i else 0) k (Kf f k) := by
      funext i
      unfold upd
      by_cases hi : i = k
      · subst hi; simp
      · rw [if_neg hi]
        by_cases h2 : i < k
        · simp only [if_pos h2, if_pos (show i < k + 1 by omega)]
        · simp only [if_neg h2, if_neg (show ¬ i < k + 1 by omega)]
    have e2 : (fun i => decide (i < k + 1)) = upd (fun i => decide (i < k)) k true := by
      funext i
      unfold upd
      by_cases hi : i = k
      · subst hi; simp
      · rw [if_neg hi]
        exact decide_eq_decide.2 (by omega)
    generalize f.hs[k] = x at *
    have hk9 : k < 9 := by omega
    have hk9' : (k : Int) < 9 := by omega
    have c1 : 5 + k ≤ 31 := by omega
    have c2 : 14 + k ≤ 31 := by omega
    have c3 : 23 + k ≤ 31 := by omega
    have hx69 := kindsOf_ok f x hx
    rw [← hKk] at hx69
    obtain ⟨lo, hi, th⟩ := x
    simp only [fl5, tHr] at hx69
    simp only [fl5, go_sem, Nat.reduceEqDiff, Nat.reduceAdd, Nat.reduceSub, Nat.reduceMul, Nat.reduceLT, Nat.reduceLeDiff, Nat.reduceMod, Nat.reduceDiv, Int.reduceToNat, Int.reduceLT, Int.reduceLE, Bool.not_true, Bool.not_false, reduceIte, Int.reduceEq, Int.reduceBEq, Int.reduceBNe, Int.reduceGT, Int.reduceGE, Int.reduceNeg, Int.reduceAdd, Int.reduceSub, Nat.reduceBEq, decide_true, decide_false, undef, beq_self_eq_true, bne_self_eq_false, Bool.and_true, Bool.true_and, Bool.and_false, Bool.false_and, Bool.or_true, Bool.true_or, Bool.or_false, Bool.false_or, List.length_map, List.getElem?_map, hg, tHr]
    refine ACallL.quiet1 hx69 rfl rfl rfl ?_
    have sK := fun K U D => cells_K f K U D hk9 (Kf f k)
    have sU := fun K U D => cells_U f K U D hk9 true
    have sD := fun K U D => cells_D f K U D hk9 true
    simp only [go_sem, Nat.reduceEqDiff, Nat.reduceAdd, Nat.reduceSub, Nat.reduceMul, Nat.reduceLT, Nat.reduceLeDiff, Nat.reduceMod, Nat.reduceDiv, Int.reduceToNat, Int.reduceLT, Int.reduceLE, Bool.not_true, Bool.not_false, reduceIte, Int.reduceEq, Int.reduceBEq, Int.reduceBNe, Int.reduceGT, Int.reduceGE, Int.reduceNeg, Int.reduceAdd, Int.reduceSub, Nat.reduceBEq, decide_true, decide_false, undef, beq_self_eq_true, bne_self_eq_false, Bool.and_true, Bool.true_and, Bool.and_false, Bool.false_and, Bool.or_true, Bool.true_or, Bool.or_false, Bool.false_or, List.length_map, cellsE_len, Nat.mul_one, c1, c2, c3, hk9', hw, sK, sU, sD]
    refine ⟨_, Sub.gc [0, 1] [102, 101, 100, 9, 2] rfl rfl, ?_⟩
    rw [e1, e2]
    rfl
  · rintro s rfl
    unfold fl5
    simp only [go_sem, Nat.reduceEqDiff, Nat.reduceAdd, Nat.reduceSub, Nat.reduceMul, Nat.reduceLT, Nat.reduceLeDiff, Nat.reduceMod, Nat.reduceDiv, Int.reduceToNat, Int.reduceLT, Int.reduceLE, Bool.not_true, Bool.not_false, reduceIte, Int.reduceEq, Int.reduceBEq, Int.reduceBNe, Int.reduceGT, Int.reduceGE, Int.reduceNeg, Int.reduceAdd, Int.reduceSub, Nat.reduceBEq, decide_true, decide_false, undef, beq_self_eq_true, bne_self_eq_false, Bool.and_true, Bool.true_and, Bool.and_false, Bool.false_and, Bool.or_true, Bool.true_or, Bool.or_false, Bool.false_or]
    refine see_at f _ _ _ f.ss (by omega) (fun s hs => by have := hOK.ss s hs; omega) (p := 1) rfl ?_
    simp only [go_sem, Nat.reduceEqDiff, Nat.reduceAdd, Nat.reduceSub, Nat.reduceMul, Nat.reduceLT, Nat.reduceLeDiff, Nat.reduceMod, Nat.reduceDiv, Int.reduceToNat, Int.reduceLT, Int.reduceLE, Bool.not_true, Bool.not_false, reduceIte, Int.reduceEq, Int.reduceBEq, Int.reduceBNe, Int.reduceGT, Int.reduceGE, Int.reduceNeg, Int.reduceAdd, Int.reduceSub, Nat.reduceBEq, decide_true, decide_false, undef, beq_self_eq_true, bne_self_eq_false, Bool.and_true, Bool.true_and, Bool.and_false, Bool.false_and, Bool.or_true, Bool.true_or, Bool.or_false, Bool.false_or, List.set_cons_succ, List.set_cons_zero]
    refine finL_ret [] ⟨rfl, rfl, rfl, rfl, _, rfl, res_mk ?_⟩
    have eK : (fun i => if i < f.hs.length then Kf f i else 0) = Kf f := by
      funext i
      by_cases hi : i < f.hs.length
      · rw [if_pos hi]
      · rw [if_neg hi]; unfold Kf; rw [List.getElem?_eq_none (by omega)]
    rw [eK]
    simp only [openO, hok, if_true]
    rfl
end Go.Proofs.YtkbjodmpmmnhgaaDoor

/- What an hour can come to. -/
namespace Go.Proofs.YtkbjodmpmmnhgaaDoor
open Go Go.Ab

theorem cellsB_K (f : Fl) (K : Nat → Nat) (U D : Nat → Bool) {h : Nat} (hh : h < 9) : (cellsB f K U D)[5 + h]? = some (vi (K h)) := by
  unfold cellsB
  rw [List.getElem?_append_right (by simp [fl5]), List.getElem?_append_left (by simp [fl5, arr9_len]; omega)]
  rw [show 5 + h - (fl5 f).length = h by simp [fl5], arr9_get _ hh]
theorem cellsB_U (f : Fl) (K : Nat → Nat) (U D : Nat → Bool) {h : Nat} (hh : h < 9) : (cellsB f K U D)[14 + h]? = some (vb (U h)) := by
  unfold cellsB
  rw [List.getElem?_append_right (by simp [fl5]; omega), List.getElem?_append_right (by simp [fl5, arr9_len]; omega), List.getElem?_append_left (by simp [fl5, arr9_len]; omega)]
  rw [show 14 + h - (fl5 f).length - (arr9 fun i => vi (K i)).length = h by simp [fl5, arr9_len]; omega, arr9_get _ hh]
theorem cellsB_D (f : Fl) (K : Nat → Nat) (U D : Nat → Bool) {h : Nat} (hh : h < 9) : (cellsB f K U D)[23 + h]? = some (vb (D h)) := by
  unfold cellsB
  rw [List.getElem?_append_right (by simp [fl5]; omega), List.getElem?_append_right (by simp [fl5, arr9_len]; omega), List.getElem?_append_right (by simp [fl5, arr9_len]; omega)]
  rw [show 23 + h - (fl5 f).length - (arr9 fun i => vi (K i)).length - (arr9 fun i => vb (U i)).length = h by simp [fl5, arr9_len]; omega, arr9_get _ hh]
theorem cellsB_2 (f : Fl) (K : Nat → Nat) (U D : Nat → Bool) : (cellsB f K U D)[2]? = some (vi f.quiet) := rfl
theorem cellsB_3 (f : Fl) (K : Nat → Nat) (U D : Nat → Bool) : (cellsB f K U D)[3]? = some (.slice 3 (f.hs.map tHr)) := rfl
theorem Kf_lt (f : Fl) (i : Nat) : Kf f i < 8 := by
  unfold Kf
  split
  · exact kindsN_lt _ _
  · decide

/-- What an hour comes to, whether the flag is up in it, and its kind. -/
abbrev Step := Pole × Bool × Nat
def tStep (s : Step) : T := .agg [vb s.1.1, vi s.1.2, vb s.2.1, vi s.2.2]
def vStep (s : Step) : Value := .agg #[.bool s.1.1, .int .i64 s.1.2, .bool s.2.1, .int .i64 s.2.2]
def stepAt (f : Fl) (p : Pole) (h k : Nat) : Option Step :=
  if (Kf f h).testBit k = true ∧ (if (hourF f.quiet p k).2 then Uf f h else Df f h) = true then some ((hourF f.quiet p k).1, (hourF f.quiet p k).2, k) else none
def stepsK (f : Fl) (p : Pole) (h : Nat) : Nat → List Step
  | 0 => []
  | j + 1 => stepsK f p h j ++ (stepAt f p h j).toList
def stepsL (f : Fl) (p : Pole) (h : Nat) : List Step := stepsK f p h 3

theorem stepsK_pre (f : Fl) (p : Pole) (h : Nat) : ∀ j, ∀ i, (stepsK f p h (j + i)).take (stepsK f p h j).length = stepsK f p h j
  | j, 0 => by simp
  | j, i + 1 => by
    have ih := stepsK_pre f p h j i
    show (stepsK f p h (j + i) ++ _).take _ = _
    have hl : (stepsK f p h j).length ≤ (stepsK f p h (j + i)).length := by
      have := congrArg List.length ih
      rw [List.length_take] at this
      omega
    rw [List.take_append_of_le_length hl, ih]
theorem stepsK_at (f : Fl) (p : Pole) (h j : Nat) (hj : j < 3) (s : Step) (e : stepAt f p h j = some s) : (stepsL f p h)[(stepsK f p h j).length]? = some s := by
  have h1 := stepsK_pre f p h (j + 1) (3 - (j + 1))
  rw [show j + 1 + (3 - (j + 1)) = 3 by omega] at h1
  have h2 : (stepsK f p h (j + 1))[(stepsK f p h j).length]? = some s := by
    show (stepsK f p h j ++ (stepAt f p h j).toList)[_]? = _
    rw [e]
    simp
  rw [← h1, List.getElem?_take] at h2
  split at h2
  · exact h2
  · cases h2

def tSteps (f : Fl) (p : Pole) (h : Nat) : T := .fn (.func 87) [] [.ptr (.agg [tBch f]) 0, .ptr (.agg [vi h]) 0, .ptr (tPole p) 0]

theorem steps_ok (f : Fl) (p : Pole) (h : Nat) : ACall Tryd.prog 84 [.t (tBch f), .t (tPole p), .t (vi h)] [] (ret (tSteps f p h)) := by
  refine ACall.walk k84 ?_
  unfold c84 tPole tBch
  simp only [go_sem, Nat.reduceEqDiff, Nat.reduceAdd, Nat.reduceSub, Nat.reduceMul, Nat.reduceLT, Nat.reduceLeDiff, Nat.reduceMod, Nat.reduceDiv, Int.reduceToNat, Int.reduceLT, Int.reduceLE, Bool.not_true, Bool.not_false, reduceIte, Int.reduceEq, Int.reduceBEq, Int.reduceBNe, Int.reduceGT, Int.reduceGE, Int.reduceNeg, Int.reduceAdd, Int.reduceSub, Nat.reduceBEq, decide_true, decide_false, undef, beq_self_eq_true, bne_self_eq_false, Bool.and_true, Bool.true_and, Bool.and_false, Bool.false_and, Bool.or_true, Bool.true_or, Bool.or_false, Bool.false_or]
  exact finL_ret [] ⟨rfl, rfl, rfl, rfl, _, rfl, res_mk rfl⟩

set_option maxRecDepth 4000 in
set_option maxHeartbeats 2000000 in
theorem steps_gen (f : Fl) (p : Pole) (h : Nat) (hh : h < 9) (hp : -9223372036854775808 ≤ p.2 ∧ p.2 < 9223372036854775807) : AGen Tryd.prog 87 [.yld, .t (.ptr (.agg [tBch f]) 0), .t (.ptr (.agg [vi h]) 0), .t (.ptr (tPole p) 0)] ((stepsL f p h).map vStep) := by
  refine AGen.walk k87 ?_
  unfold c87
  have hh' : (h : Int) < 9 := by omega
  have hK := fun K U D => cellsB_K f K U D hh
  have hU := fun K U D => cellsB_U f K U D hh
  have hD := fun K U D => cellsB_D f K U D hh
  simp only [tBch, tPole, go_sem, Nat.reduceEqDiff, Nat.reduceAdd, Nat.reduceSub, Nat.reduceMul, Nat.reduceLT, Nat.reduceLeDiff, Nat.reduceMod, Nat.reduceDiv, Int.reduceToNat, Int.reduceLT, Int.reduceLE, Bool.not_true, Bool.not_false, reduceIte, Int.reduceEq, Int.reduceBEq, Int.reduceBNe, Int.reduceGT, Int.reduceGE, Int.reduceNeg, Int.reduceAdd, Int.reduceSub, Nat.reduceBEq, decide_true, decide_false, undef, beq_self_eq_true, bne_self_eq_false, Bool.and_true, Bool.true_and, Bool.and_false, Bool.false_and, Bool.or_true, Bool.true_or, Bool.or_false, Bool.false_or, hh', Nat.mul_one, hK]
  refine awpL_forC (i := 18) 3 rfl (fun j s => s = { env := [(18, .t (vi j)), (0, .yld), (1, .t (.ptr (.agg [tBch f]) 0)), (2, .t (.ptr (.agg [vi h]) 0)), (3, .t (.ptr (tPole p) 0)), (5, .t (.fn (.func 88) [vi (Kf f h)] [])), (6, .t (.fn (.func 89) [] []))], σ := [], k := (stepsK f p h j).length }) ?_ ⟨_, Sub.gc [] [18, 0, 1, 2, 3, 5, 6] rfl rfl, rfl⟩ ?_ ?_
  · rintro k s rfl; rfl
  · rintro j s hj rfl
    have hw : IntKind.i64.wrap ((j : Int) + 1) = ((j + 1 : Nat) : Int) := by rw [wrap_id (by omega) (by omega)]; omega
    have hat : stepAt f p h j = if (Kf f h).testBit j = true ∧ (if (hourF f.quiet p j).2 then Uf f h else Df f h) = true then some ((hourF f.quiet p j).1, (hourF f.quiet p j).2, j) else none := rfl
    have hsucc : (stepsK f p h (j + 1)).length = (stepsK f p h j).length + if (stepAt f p h j).isSome then 1 else 0 := by
      show (_ ++ _ : List Step).length = _
      rw [List.length_append]
      cases stepAt f p h j <;> rfl
    have hyp := stepsK_at f p h j hj
    have h89 := hour_ok p j f.quiet hp
    generalize hourF f.quiet p j = r at *
    obtain ⟨⟨q1, q2⟩, up⟩ := r
    simp only [tPole] at h89
    simp only [tBch, tPole, go_sem, Nat.reduceEqDiff, Nat.reduceAdd, Nat.reduceSub, Nat.reduceMul, Nat.reduceLT, Nat.reduceLeDiff, Nat.reduceMod, Nat.reduceDiv, Int.reduceToNat, Int.reduceLT, Int.reduceLE, Bool.not_true, Bool.not_false, reduceIte, Int.reduceEq, Int.reduceBEq, Int.reduceBNe, Int.reduceGT, Int.reduceGE, Int.reduceNeg, Int.reduceAdd, Int.reduceSub, Nat.reduceBEq, decide_true, decide_false, undef, beq_self_eq_true, bne_self_eq_false, Bool.and_true, Bool.true_and, Bool.and_false, Bool.false_and, Bool.or_true, Bool.true_or, Bool.or_false, Bool.false_or]
    refine ACallL.quiet1 (has_ok (Kf f h) j (Kf_lt f h) hj) rfl rfl rfl ?_
    cases hb : (Kf f h).testBit j
    · simp only [go_sem, Nat.reduceEqDiff, Nat.reduceAdd, Nat.reduceSub, Nat.reduceMul, Nat.reduceLT, Nat.reduceLeDiff, Nat.reduceMod, Nat.reduceDiv, Int.reduceToNat, Int.reduceLT, Int.reduceLE, Bool.not_true, Bool.not_false, reduceIte, Int.reduceEq, Int.reduceBEq, Int.reduceBNe, Int.reduceGT, Int.reduceGE, Int.reduceNeg, Int.reduceAdd, Int.reduceSub, Nat.reduceBEq, decide_true, decide_false, undef, beq_self_eq_true, bne_self_eq_false, Bool.and_true, Bool.true_and, Bool.and_false, Bool.false_and, Bool.or_true, Bool.true_or, Bool.or_false, Bool.false_or, hw]
      refine ⟨_, Sub.gc [] [18, 0, 1, 2, 3, 5, 6] rfl rfl, ?_⟩
      have : stepAt f p h j = none := by rw [hat, hb]; simp
      rw [hsucc, this]
      rfl
    · simp only [go_sem, Nat.reduceEqDiff, Nat.reduceAdd, Nat.reduceSub, Nat.reduceMul, Nat.reduceLT, Nat.reduceLeDiff, Nat.reduceMod, Nat.reduceDiv, Int.reduceToNat, Int.reduceLT, Int.reduceLE, Bool.not_true, Bool.not_false, reduceIte, Int.reduceEq, Int.reduceBEq, Int.reduceBNe, Int.reduceGT, Int.reduceGE, Int.reduceNeg, Int.reduceAdd, Int.reduceSub, Nat.reduceBEq, decide_true, decide_false, undef, beq_self_eq_true, bne_self_eq_false, Bool.and_true, Bool.true_and, Bool.and_false, Bool.false_and, Bool.or_true, Bool.true_or, Bool.or_false, Bool.false_or, hw, cellsB_2]
      refine AndL.mk ?_ ?_
      all_goals simp only [go_sem, Nat.reduceEqDiff, Nat.reduceAdd, Nat.reduceSub, Nat.reduceMul, Nat.reduceLT, Nat.reduceLeDiff, Nat.reduceMod, Nat.reduceDiv, Int.reduceToNat, Int.reduceLT, Int.reduceLE, Bool.not_true, Bool.not_false, reduceIte, Int.reduceEq, Int.reduceBEq, Int.reduceBNe, Int.reduceGT, Int.reduceGE, Int.reduceNeg, Int.reduceAdd, Int.reduceSub, Nat.reduceBEq, decide_true, decide_false, undef, beq_self_eq_true, bne_self_eq_false, Bool.and_true, Bool.true_and, Bool.and_false, Bool.false_and, Bool.or_true, Bool.true_or, Bool.or_false, Bool.false_or, hw, cellsB_2]
      all_goals refine ACallL.quiet1 h89 rfl rfl rfl ?_
      all_goals cases up
      all_goals cases hd : Df f h
      all_goals cases hu : Uf f h
      all_goals rw [hb, hd, hu] at hat
      all_goals simp only [Bool.false_eq_true, if_false, if_true, and_false, and_self] at hat
      all_goals rw [hat] at hsucc
      all_goals simp only [Option.isSome_none, Option.isSome_some, Bool.false_eq_true, if_false, if_true] at hsucc
      all_goals simp only [go_sem, Nat.reduceEqDiff, Nat.reduceAdd, Nat.reduceSub, Nat.reduceMul, Nat.reduceLT, Nat.reduceLeDiff, Nat.reduceMod, Nat.reduceDiv, Int.reduceToNat, Int.reduceLT, Int.reduceLE, Bool.not_true, Bool.not_false, reduceIte, Int.reduceEq, Int.reduceBEq, Int.reduceBNe, Int.reduceGT, Int.reduceGE, Int.reduceNeg, Int.reduceAdd, Int.reduceSub, Nat.reduceBEq, decide_true, decide_false, undef, beq_self_eq_true, bne_self_eq_false, Bool.and_true, Bool.true_and, Bool.and_false, Bool.false_and, Bool.or_true, Bool.true_or, Bool.or_false, Bool.false_or, hw, hh', Nat.mul_one, hU, hD, cellsB_2, hd, hu]
      all_goals first
        | exact ⟨_, Sub.gc [] [18, 0, 1, 2, 3, 5, 6] rfl rfl, by rw [hsucc]; rfl⟩
        | exact ⟨by rw [List.getElem?_map, hyp _ hat]; rfl, _, Sub.gc [] [18, 0, 1, 2, 3, 5, 6] rfl rfl, by rw [hsucc]; rfl⟩
  · rintro s rfl
    simp only [go_sem, Nat.reduceEqDiff, Nat.reduceAdd, Nat.reduceSub, Nat.reduceMul, Nat.reduceLT, Nat.reduceLeDiff, Nat.reduceMod, Nat.reduceDiv, Int.reduceToNat, Int.reduceLT, Int.reduceLE, Bool.not_true, Bool.not_false, reduceIte, Int.reduceEq, Int.reduceBEq, Int.reduceBNe, Int.reduceGT, Int.reduceGE, Int.reduceNeg, Int.reduceAdd, Int.reduceSub, Nat.reduceBEq, decide_true, decide_false, undef, beq_self_eq_true, bne_self_eq_false, Bool.and_true, Bool.true_and, Bool.and_false, Bool.false_and, Bool.or_true, Bool.true_or, Bool.or_false, Bool.false_or]
    refine finL_ret [] ⟨rfl, ?_, rfl, rfl, _, rfl, ?_⟩
    · simp [stepsL]
    · exact ⟨_, rfl⟩
end Go.Proofs.YtkbjodmpmmnhgaaDoor

/- What is counted, and how it is put together. -/
namespace Go.Proofs.YtkbjodmpmmnhgaaDoor
open Go Go.Ab

inductive Tl where
  | flown (a b : Int)
  | only (h k : Int)
def tTl : Tl → T
  | .flown a b => .iface 88 (.agg [vi a, vi b])
  | .only h k => .iface 96 (.agg [vi h, vi k])
/-- How much a step counts. -/
def Tl.cnt : Tl → Step → Nat → Nat
  | .flown a b, s, h => if s.2.1 = true ∧ a ≤ (h : Int) ∧ (h : Int) < b then 1 else 0
  | .only a k, s, h => if (h : Int) = a ∧ (s.2.2 : Int) ≠ k then 0 else 1
theorem Tl.cnt_le (t : Tl) (s : Step) (h : Nat) : t.cnt s h ≤ 1 := by cases t <;> simp only [Tl.cnt] <;> split <;> decide

theorem flown_ok (a b : Int) (s : Step) (h : Nat) : ACall Tryd.prog 105 [.t (.agg [vi a, vi b]), .t (tStep s), .t (vi h)] [] (ret (vi ((Tl.flown a b).cnt s h : Nat))) := by
  refine ACall.walk k105 ?_
  unfold c105
  obtain ⟨⟨q1, q2⟩, up, k⟩ := s
  simp only [tStep, go_sem, Nat.reduceEqDiff, Nat.reduceAdd, Nat.reduceSub, Nat.reduceMul, Nat.reduceLT, Nat.reduceLeDiff, Nat.reduceMod, Nat.reduceDiv, Int.reduceToNat, Int.reduceLT, Int.reduceLE, Bool.not_true, Bool.not_false, reduceIte, Int.reduceEq, Int.reduceBEq, Int.reduceBNe, Int.reduceGT, Int.reduceGE, Int.reduceNeg, Int.reduceAdd, Int.reduceSub, Nat.reduceBEq, decide_true, decide_false, undef, beq_self_eq_true, bne_self_eq_false, Bool.and_true, Bool.true_and, Bool.and_false, Bool.false_and, Bool.or_true, Bool.true_or, Bool.or_false, Bool.false_or]
  cases up
  · simp only [go_sem, Nat.reduceEqDiff, Nat.reduceAdd, Nat.reduceSub, Nat.reduceMul, Nat.reduceLT, Nat.reduceLeDiff, Nat.reduceMod, Nat.reduceDiv, Int.reduceToNat, Int.reduceLT, Int.reduceLE, Bool.not_true, Bool.not_false, reduceIte, Int.reduceEq, Int.reduceBEq, Int.reduceBNe, Int.reduceGT, Int.reduceGE, Int.reduceNeg, Int.reduceAdd, Int.reduceSub, Nat.reduceBEq, decide_true, decide_false, undef, beq_self_eq_true, bne_self_eq_false, Bool.and_true, Bool.true_and, Bool.and_false, Bool.false_and, Bool.or_true, Bool.true_or, Bool.or_false, Bool.false_or]
    exact finL_ret [] ⟨rfl, rfl, rfl, rfl, _, rfl, res_mk (by simp only [Tl.cnt]; rfl)⟩
  · simp only [go_sem, Nat.reduceEqDiff, Nat.reduceAdd, Nat.reduceSub, Nat.reduceMul, Nat.reduceLT, Nat.reduceLeDiff, Nat.reduceMod, Nat.reduceDiv, Int.reduceToNat, Int.reduceLT, Int.reduceLE, Bool.not_true, Bool.not_false, reduceIte, Int.reduceEq, Int.reduceBEq, Int.reduceBNe, Int.reduceGT, Int.reduceGE, Int.reduceNeg, Int.reduceAdd, Int.reduceSub, Nat.reduceBEq, decide_true, decide_false, undef, beq_self_eq_true, bne_self_eq_false, Bool.and_true, Bool.true_and, Bool.and_false, Bool.false_and, Bool.or_true, Bool.true_or, Bool.or_false, Bool.false_or]
    refine BrL.mk (fun h1 => ?_) (fun h1 => ?_)
    · have h1' : a ≤ (h : Int) := by simpa using h1
      simp only [go_sem, Nat.reduceEqDiff, Nat.reduceAdd, Nat.reduceSub, Nat.reduceMul, Nat.reduceLT, Nat.reduceLeDiff, Nat.reduceMod, Nat.reduceDiv, Int.reduceToNat, Int.reduceLT, Int.reduceLE, Bool.not_true, Bool.not_false, reduceIte, Int.reduceEq, Int.reduceBEq, Int.reduceBNe, Int.reduceGT, Int.reduceGE, Int.reduceNeg, Int.reduceAdd, Int.reduceSub, Nat.reduceBEq, decide_true, decide_false, undef, beq_self_eq_true, bne_self_eq_false, Bool.and_true, Bool.true_and, Bool.and_false, Bool.false_and, Bool.or_true, Bool.true_or, Bool.or_false, Bool.false_or, h1]
      refine BrL.mk (fun h2 => ?_) (fun h2 => ?_)
      · have h2' : (h : Int) < b := by simpa using h2
        simp only [go_sem, Nat.reduceEqDiff, Nat.reduceAdd, Nat.reduceSub, Nat.reduceMul, Nat.reduceLT, Nat.reduceLeDiff, Nat.reduceMod, Nat.reduceDiv, Int.reduceToNat, Int.reduceLT, Int.reduceLE, Bool.not_true, Bool.not_false, reduceIte, Int.reduceEq, Int.reduceBEq, Int.reduceBNe, Int.reduceGT, Int.reduceGE, Int.reduceNeg, Int.reduceAdd, Int.reduceSub, Nat.reduceBEq, decide_true, decide_false, undef, beq_self_eq_true, bne_self_eq_false, Bool.and_true, Bool.true_and, Bool.and_false, Bool.false_and, Bool.or_true, Bool.true_or, Bool.or_false, Bool.false_or, h2]
        exact finL_ret [] ⟨rfl, rfl, rfl, rfl, _, rfl, res_mk (by simp only [Tl.cnt, h1', h2', and_self, if_true]; rfl)⟩
      · have h2' : ¬ (h : Int) < b := by simpa using h2
        simp only [go_sem, Nat.reduceEqDiff, Nat.reduceAdd, Nat.reduceSub, Nat.reduceMul, Nat.reduceLT, Nat.reduceLeDiff, Nat.reduceMod, Nat.reduceDiv, Int.reduceToNat, Int.reduceLT, Int.reduceLE, Bool.not_true, Bool.not_false, reduceIte, Int.reduceEq, Int.reduceBEq, Int.reduceBNe, Int.reduceGT, Int.reduceGE, Int.reduceNeg, Int.reduceAdd, Int.reduceSub, Nat.reduceBEq, decide_true, decide_false, undef, beq_self_eq_true, bne_self_eq_false, Bool.and_true, Bool.true_and, Bool.and_false, Bool.false_and, Bool.or_true, Bool.true_or, Bool.or_false, Bool.false_or, h2]
        exact finL_ret [] ⟨rfl, rfl, rfl, rfl, _, rfl, res_mk (by simp only [Tl.cnt, h2', and_false, if_false]; rfl)⟩
    · have h1' : ¬ a ≤ (h : Int) := by simpa using h1
      simp only [go_sem, Nat.reduceEqDiff, Nat.reduceAdd, Nat.reduceSub, Nat.reduceMul, Nat.reduceLT, Nat.reduceLeDiff, Nat.reduceMod, Nat.reduceDiv, Int.reduceToNat, Int.reduceLT, Int.reduceLE, Bool.not_true, Bool.not_false, reduceIte, Int.reduceEq, Int.reduceBEq, Int.reduceBNe, Int.reduceGT, Int.reduceGE, Int.reduceNeg, Int.reduceAdd, Int.reduceSub, Nat.reduceBEq, decide_true, decide_false, undef, beq_self_eq_true, bne_self_eq_false, Bool.and_true, Bool.true_and, Bool.and_false, Bool.false_and, Bool.or_true, Bool.true_or, Bool.or_false, Bool.false_or, h1]
      exact finL_ret [] ⟨rfl, rfl, rfl, rfl, _, rfl, res_mk (by simp only [Tl.cnt, h1', and_false, false_and, if_false]; rfl)⟩

theorem only_ok (a k : Int) (s : Step) (h : Nat) : ACall Tryd.prog 106 [.t (.agg [vi a, vi k]), .t (tStep s), .t (vi h)] [] (ret (vi ((Tl.only a k).cnt s h : Nat))) := by
  refine ACall.walk k106 ?_
  unfold c106
  obtain ⟨⟨q1, q2⟩, up, kd⟩ := s
  simp only [tStep, go_sem, Nat.reduceEqDiff, Nat.reduceAdd, Nat.reduceSub, Nat.reduceMul, Nat.reduceLT, Nat.reduceLeDiff, Nat.reduceMod, Nat.reduceDiv, Int.reduceToNat, Int.reduceLT, Int.reduceLE, Bool.not_true, Bool.not_false, reduceIte, Int.reduceEq, Int.reduceBEq, Int.reduceBNe, Int.reduceGT, Int.reduceGE, Int.reduceNeg, Int.reduceAdd, Int.reduceSub, Nat.reduceBEq, decide_true, decide_false, undef, beq_self_eq_true, bne_self_eq_false, Bool.and_true, Bool.true_and, Bool.and_false, Bool.false_and, Bool.or_true, Bool.true_or, Bool.or_false, Bool.false_or]
  refine BrL.mk (fun h1 => ?_) (fun h1 => ?_)
  · have h1' : (h : Int) = a := by simpa using h1
    simp only [go_sem, Nat.reduceEqDiff, Nat.reduceAdd, Nat.reduceSub, Nat.reduceMul, Nat.reduceLT, Nat.reduceLeDiff, Nat.reduceMod, Nat.reduceDiv, Int.reduceToNat, Int.reduceLT, Int.reduceLE, Bool.not_true, Bool.not_false, reduceIte, Int.reduceEq, Int.reduceBEq, Int.reduceBNe, Int.reduceGT, Int.reduceGE, Int.reduceNeg, Int.reduceAdd, Int.reduceSub, Nat.reduceBEq, decide_true, decide_false, undef, beq_self_eq_true, bne_self_eq_false, Bool.and_true, Bool.true_and, Bool.and_false, Bool.false_and, Bool.or_true, Bool.true_or, Bool.or_false, Bool.false_or, h1]
    refine BrL.mk (fun h2 => ?_) (fun h2 => ?_)
    · have h2' : (kd : Int) ≠ k := by simpa using h2
      simp only [go_sem, Nat.reduceEqDiff, Nat.reduceAdd, Nat.reduceSub, Nat.reduceMul, Nat.reduceLT, Nat.reduceLeDiff, Nat.reduceMod, Nat.reduceDiv, Int.reduceToNat, Int.reduceLT, Int.reduceLE, Bool.not_true, Bool.not_false, reduceIte, Int.reduceEq, Int.reduceBEq, Int.reduceBNe, Int.reduceGT, Int.reduceGE, Int.reduceNeg, Int.reduceAdd, Int.reduceSub, Nat.reduceBEq, decide_true, decide_false, undef, beq_self_eq_true, bne_self_eq_false, Bool.and_true, Bool.true_and, Bool.and_false, Bool.false_and, Bool.or_true, Bool.true_or, Bool.or_false, Bool.false_or, h2]
      exact finL_ret [] ⟨rfl, rfl, rfl, rfl, _, rfl, res_mk (by simp only [Tl.cnt, h1', h2', ne_eq, not_false_eq_true, and_self, if_true]; rfl)⟩
    · have h2' : (kd : Int) = k := by simpa using h2
      simp only [go_sem, Nat.reduceEqDiff, Nat.reduceAdd, Nat.reduceSub, Nat.reduceMul, Nat.reduceLT, Nat.reduceLeDiff, Nat.reduceMod, Nat.reduceDiv, Int.reduceToNat, Int.reduceLT, Int.reduceLE, Bool.not_true, Bool.not_false, reduceIte, Int.reduceEq, Int.reduceBEq, Int.reduceBNe, Int.reduceGT, Int.reduceGE, Int.reduceNeg, Int.reduceAdd, Int.reduceSub, Nat.reduceBEq, decide_true, decide_false, undef, beq_self_eq_true, bne_self_eq_false, Bool.and_true, Bool.true_and, Bool.and_false, Bool.false_and, Bool.or_true, Bool.true_or, Bool.or_false, Bool.false_or, h2]
      exact finL_ret [] ⟨rfl, rfl, rfl, rfl, _, rfl, res_mk (by simp only [Tl.cnt, h2', ne_eq, not_true, and_false, if_false]; rfl)⟩
  · have h1' : ¬ (h : Int) = a := by simpa using h1
    simp only [go_sem, Nat.reduceEqDiff, Nat.reduceAdd, Nat.reduceSub, Nat.reduceMul, Nat.reduceLT, Nat.reduceLeDiff, Nat.reduceMod, Nat.reduceDiv, Int.reduceToNat, Int.reduceLT, Int.reduceLE, Bool.not_true, Bool.not_false, reduceIte, Int.reduceEq, Int.reduceBEq, Int.reduceBNe, Int.reduceGT, Int.reduceGE, Int.reduceNeg, Int.reduceAdd, Int.reduceSub, Nat.reduceBEq, decide_true, decide_false, undef, beq_self_eq_true, bne_self_eq_false, Bool.and_true, Bool.true_and, Bool.and_false, Bool.false_and, Bool.or_true, Bool.true_or, Bool.or_false, Bool.false_or, h1]
    exact finL_ret [] ⟨rfl, rfl, rfl, rfl, _, rfl, res_mk (by simp only [Tl.cnt, h1', false_and, if_false]; rfl)⟩

theorem stepI_ok (tl : Tl) (s : Step) (h : Nat) (r : Int) (hr : 0 ≤ r ∧ r < 1000000) : ACall Tryd.prog 78 [.t (tStep s), .t (vi h), .t (vi r), .t (.ptr (.agg [tTl tl]) 0)] [] (ret (vi (r * (tl.cnt s h : Nat)))) := by
  refine ACall.walk k78 ?_
  unfold c78
  have hc := tl.cnt_le s h
  have hw : IntKind.i64.wrap (r * ((tl.cnt s h : Nat) : Int)) = r * ((tl.cnt s h : Nat) : Int) := by
    have : tl.cnt s h = 0 ∨ tl.cnt s h = 1 := by omega
    rcases this with e | e <;> rw [e] <;> exact wrap_id (by omega) (by omega)
  have hts : ∀ s : Step, tStep s = .agg [vb s.1.1, vi s.1.2, vb s.2.1, vi s.2.2] := fun _ => rfl
  cases tl with
  | flown a b =>
    have h1 := flown_ok a b s h
    rw [hts] at h1 ⊢
    simp only [tTl, go_sem, Nat.reduceEqDiff, Nat.reduceAdd, Nat.reduceSub, Nat.reduceMul, Nat.reduceLT, Nat.reduceLeDiff, Nat.reduceMod, Nat.reduceDiv, Int.reduceToNat, Int.reduceLT, Int.reduceLE, Bool.not_true, Bool.not_false, reduceIte, Int.reduceEq, Int.reduceBEq, Int.reduceBNe, Int.reduceGT, Int.reduceGE, Int.reduceNeg, Int.reduceAdd, Int.reduceSub, Nat.reduceBEq, decide_true, decide_false, undef, beq_self_eq_true, bne_self_eq_false, Bool.and_true, Bool.true_and, Bool.and_false, Bool.false_and, Bool.or_true, Bool.true_or, Bool.or_false, Bool.false_or, mfind]
    refine ACallL.quiet1 h1 rfl rfl rfl ?_
    simp only [go_sem, Nat.reduceEqDiff, Nat.reduceAdd, Nat.reduceSub, Nat.reduceMul, Nat.reduceLT, Nat.reduceLeDiff, Nat.reduceMod, Nat.reduceDiv, Int.reduceToNat, Int.reduceLT, Int.reduceLE, Bool.not_true, Bool.not_false, reduceIte, Int.reduceEq, Int.reduceBEq, Int.reduceBNe, Int.reduceGT, Int.reduceGE, Int.reduceNeg, Int.reduceAdd, Int.reduceSub, Nat.reduceBEq, decide_true, decide_false, undef, beq_self_eq_true, bne_self_eq_false, Bool.and_true, Bool.true_and, Bool.and_false, Bool.false_and, Bool.or_true, Bool.true_or, Bool.or_false, Bool.false_or, hw]
    exact finL_ret [] ⟨rfl, rfl, rfl, rfl, _, rfl, res_mk rfl⟩
  | only a b =>
    have h1 := only_ok a b s h
    rw [hts] at h1 ⊢
    simp only [tTl, go_sem, Nat.reduceEqDiff, Nat.reduceAdd, Nat.reduceSub, Nat.reduceMul, Nat.reduceLT, Nat.reduceLeDiff, Nat.reduceMod, Nat.reduceDiv, Int.reduceToNat, Int.reduceLT, Int.reduceLE, Bool.not_true, Bool.not_false, reduceIte, Int.reduceEq, Int.reduceBEq, Int.reduceBNe, Int.reduceGT, Int.reduceGE, Int.reduceNeg, Int.reduceAdd, Int.reduceSub, Nat.reduceBEq, decide_true, decide_false, undef, beq_self_eq_true, bne_self_eq_false, Bool.and_true, Bool.true_and, Bool.and_false, Bool.false_and, Bool.or_true, Bool.true_or, Bool.or_false, Bool.false_or, mfind]
    refine ACallL.quiet1 h1 rfl rfl rfl ?_
    simp only [go_sem, Nat.reduceEqDiff, Nat.reduceAdd, Nat.reduceSub, Nat.reduceMul, Nat.reduceLT, Nat.reduceLeDiff, Nat.reduceMod, Nat.reduceDiv, Int.reduceToNat, Int.reduceLT, Int.reduceLE, Bool.not_true, Bool.not_false, reduceIte, Int.reduceEq, Int.reduceBEq, Int.reduceBNe, Int.reduceGT, Int.reduceGE, Int.reduceNeg, Int.reduceAdd, Int.reduceSub, Nat.reduceBEq, decide_true, decide_false, undef, beq_self_eq_true, bne_self_eq_false, Bool.and_true, Bool.true_and, Bool.and_false, Bool.false_and, Bool.or_true, Bool.true_or, Bool.or_false, Bool.false_or, hw]
    exact finL_ret [] ⟨rfl, rfl, rfl, rfl, _, rfl, res_mk rfl⟩

theorem joinI_ok (a b : Int) (ha : 0 ≤ a ∧ a < 1000000) (hb : 0 ≤ b ∧ b < 1000000) : ACall Tryd.prog 79 [.t (vi a), .t (vi b)] [] (ret (vi (a + b))) := by
  refine ACall.walk k79 ?_
  unfold c79
  have hw : IntKind.i64.wrap (a + b) = a + b := wrap_id (by omega) (by omega)
  simp only [go_sem, Nat.reduceEqDiff, Nat.reduceAdd, Nat.reduceSub, Nat.reduceMul, Nat.reduceLT, Nat.reduceLeDiff, Nat.reduceMod, Nat.reduceDiv, Int.reduceToNat, Int.reduceLT, Int.reduceLE, Bool.not_true, Bool.not_false, reduceIte, Int.reduceEq, Int.reduceBEq, Int.reduceBNe, Int.reduceGT, Int.reduceGE, Int.reduceNeg, Int.reduceAdd, Int.reduceSub, Nat.reduceBEq, decide_true, decide_false, undef, beq_self_eq_true, bne_self_eq_false, Bool.and_true, Bool.true_and, Bool.and_false, Bool.false_and, Bool.or_true, Bool.true_or, Bool.or_false, Bool.false_or, hw]
  exact finL_ret [] ⟨rfl, rfl, rfl, rfl, _, rfl, res_mk rfl⟩

abbrev tSp (s : Int × Int) : T := .agg [vi s.1, vi s.2]

theorem stepS_ok (tl : Tl) (s : Step) (h : Nat) (lo hi : Int) (hr : 0 ≤ lo ∧ lo < 1000000 ∧ 0 ≤ hi ∧ hi < 1000000) :
    ACall Tryd.prog 73 [.t (tStep s), .t (vi h), .t (.agg [vi lo, vi hi]), .t (.ptr (.agg [tTl tl]) 0)] [] (ret (.agg [vi (lo + (tl.cnt s h : Nat)), vi (hi + (tl.cnt s h : Nat))])) := by
  refine ACall.walk k73 ?_
  unfold c73
  have hc := tl.cnt_le s h
  have hw1 : IntKind.i64.wrap (lo + ((tl.cnt s h : Nat) : Int)) = lo + ((tl.cnt s h : Nat) : Int) := wrap_id (by omega) (by omega)
  have hw2 : IntKind.i64.wrap (hi + ((tl.cnt s h : Nat) : Int)) = hi + ((tl.cnt s h : Nat) : Int) := wrap_id (by omega) (by omega)
  have hts : ∀ s : Step, tStep s = .agg [vb s.1.1, vi s.1.2, vb s.2.1, vi s.2.2] := fun _ => rfl
  cases tl with
  | flown a b =>
    have h1 := flown_ok a b s h
    rw [hts] at h1 ⊢
    simp only [tTl, go_sem, Nat.reduceEqDiff, Nat.reduceAdd, Nat.reduceSub, Nat.reduceMul, Nat.reduceLT, Nat.reduceLeDiff, Nat.reduceMod, Nat.reduceDiv, Int.reduceToNat, Int.reduceLT, Int.reduceLE, Bool.not_true, Bool.not_false, reduceIte, Int.reduceEq, Int.reduceBEq, Int.reduceBNe, Int.reduceGT, Int.reduceGE, Int.reduceNeg, Int.reduceAdd, Int.reduceSub, Nat.reduceBEq, decide_true, decide_false, undef, beq_self_eq_true, bne_self_eq_false, Bool.and_true, Bool.true_and, Bool.and_false, Bool.false_and, Bool.or_true, Bool.true_or, Bool.or_false, Bool.false_or, mfind]
    refine ACallL.quiet1 h1 rfl rfl rfl ?_
    simp only [go_sem, Nat.reduceEqDiff, Nat.reduceAdd, Nat.reduceSub, Nat.reduceMul, Nat.reduceLT, Nat.reduceLeDiff, Nat.reduceMod, Nat.reduceDiv, Int.reduceToNat, Int.reduceLT, Int.reduceLE, Bool.not_true, Bool.not_false, reduceIte, Int.reduceEq, Int.reduceBEq, Int.reduceBNe, Int.reduceGT, Int.reduceGE, Int.reduceNeg, Int.reduceAdd, Int.reduceSub, Nat.reduceBEq, decide_true, decide_false, undef, beq_self_eq_true, bne_self_eq_false, Bool.and_true, Bool.true_and, Bool.and_false, Bool.false_and, Bool.or_true, Bool.true_or, Bool.or_false, Bool.false_or, hw1, hw2]
    exact finL_ret [] ⟨rfl, rfl, rfl, rfl, _, rfl, res_mk rfl⟩
  | only a b =>
    have h1 := only_ok a b s h
    rw [hts] at h1 ⊢
    simp only [tTl, go_sem, Nat.reduceEqDiff, Nat.reduceAdd, Nat.reduceSub, Nat.reduceMul, Nat.reduceLT, Nat.reduceLeDiff, Nat.reduceMod, Nat.reduceDiv, Int.reduceToNat, Int.reduceLT, Int.reduceLE, Bool.not_true, Bool.not_false, reduceIte, Int.reduceEq, Int.reduceBEq, Int.reduceBNe, Int.reduceGT, Int.reduceGE, Int.reduceNeg, Int.reduceAdd, Int.reduceSub, Nat.reduceBEq, decide_true, decide_false, undef, beq_self_eq_true, bne_self_eq_false, Bool.and_true, Bool.true_and, Bool.and_false, Bool.false_and, Bool.or_true, Bool.true_or, Bool.or_false, Bool.false_or, mfind]
    refine ACallL.quiet1 h1 rfl rfl rfl ?_
    simp only [go_sem, Nat.reduceEqDiff, Nat.reduceAdd, Nat.reduceSub, Nat.reduceMul, Nat.reduceLT, Nat.reduceLeDiff, Nat.reduceMod, Nat.reduceDiv, Int.reduceToNat, Int.reduceLT, Int.reduceLE, Bool.not_true, Bool.not_false, reduceIte, Int.reduceEq, Int.reduceBEq, Int.reduceBNe, Int.reduceGT, Int.reduceGE, Int.reduceNeg, Int.reduceAdd, Int.reduceSub, Nat.reduceBEq, decide_true, decide_false, undef, beq_self_eq_true, bne_self_eq_false, Bool.and_true, Bool.true_and, Bool.and_false, Bool.false_and, Bool.or_true, Bool.true_or, Bool.or_false, Bool.false_or, hw1, hw2]
    exact finL_ret [] ⟨rfl, rfl, rfl, rfl, _, rfl, res_mk rfl⟩

/-- The greatest of numbers. -/
def hiG : List Int → Int
  | [] => 0
  | x :: l => l.foldl max x
theorem hiG_snoc (l : List Int) (x : Int) : hiG (l ++ [x]) = if l = [] ∨ x > hiG l then x else hiG l := by
  cases l with
  | nil => rfl
  | cons y l =>
    simp only [List.cons_append, hiG, List.foldl_append, List.foldl_cons, List.foldl_nil, reduceCtorEq, false_or]
    split <;> omega

set_option maxRecDepth 4000 in
theorem highest_ok (l : List Int) (hl : l.length < 1000000) : ACall Tryd.prog 61 [.t (.slice 1 (l.map vi))] [] (ret (vi (hiG l))) := by
  refine ACall.walk k61 ?_
  unfold c61
  simp only [go_sem, Nat.reduceEqDiff, Nat.reduceAdd, Nat.reduceSub, Nat.reduceMul, Nat.reduceLT, Nat.reduceLeDiff, Nat.reduceMod, Nat.reduceDiv, Int.reduceToNat, Int.reduceLT, Int.reduceLE, Bool.not_true, Bool.not_false, reduceIte, List.length_map]
  refine awpL_for (i := 7) (L := 6) l.length (fun k s => s = { env := [(7, .t (vi k)), (6, .t (vi l.length)), (5, .t (.slice 1 (l.map vi))), (2, .t (vi (hiG (l.take k))))], σ := [] }) ?_ ⟨_, Sub.gc [] [7, 6, 5, 2] rfl rfl, rfl⟩ ?_ ?_
  · rintro k s rfl; exact ⟨rfl, rfl⟩
  · rintro k s hk rfl
    have hg : l[k]? = some l[k] := List.getElem?_eq_getElem hk
    have htk : l.take (k + 1) = l.take k ++ [l[k]] := by rw [List.take_add_one, hg]; rfl
    have hw : IntKind.i64.wrap ((k : Int) + 1) = ((k + 1 : Nat) : Int) := by rw [wrap_id (by omega) (by omega)]; omega
    have hsn := hiG_snoc (l.take k) l[k]
    rw [← htk] at hsn
    have hnil : l.take k = [] ↔ k = 0 := by
      constructor
      · intro h
        have := congrArg List.length h
        rw [List.length_take, List.length_nil] at this
        omega
      · rintro rfl; rfl
    simp only [hnil] at hsn
    generalize hiG (l.take k) = m at *
    generalize l[k] = x at *
    cases hb : ((k : Int) == 0)
    · have hb' : ¬ k = 0 := by
        rw [beq_eq_false_iff_ne] at hb
        omega
      cases h2 : decide (x > m)
      · simp only [go_sem, Nat.reduceEqDiff, Nat.reduceAdd, Nat.reduceSub, Nat.reduceMul, Nat.reduceLT, Nat.reduceLeDiff, Nat.reduceMod, Nat.reduceDiv, Int.reduceToNat, Int.reduceLT, Int.reduceLE, Bool.not_true, Bool.not_false, reduceIte, Int.reduceEq, Int.reduceBEq, Int.reduceBNe, Int.reduceGT, Int.reduceGE, Int.reduceNeg, Int.reduceAdd, Int.reduceSub, Nat.reduceBEq, decide_true, decide_false, undef, beq_self_eq_true, bne_self_eq_false, Bool.and_true, Bool.true_and, Bool.and_false, Bool.false_and, Bool.or_true, Bool.true_or, Bool.or_false, Bool.false_or, List.length_map, List.getElem?_map, hg, hb, h2, hw]
        refine ⟨_, Sub.gc [] [7, 6, 5, 2] rfl rfl, ?_⟩
        rw [hsn, if_neg (fun h => h.elim hb' fun h => by simp at h2; omega)]
        rfl
      · simp only [go_sem, Nat.reduceEqDiff, Nat.reduceAdd, Nat.reduceSub, Nat.reduceMul, Nat.reduceLT, Nat.reduceLeDiff, Nat.reduceMod, Nat.reduceDiv, Int.reduceToNat, Int.reduceLT, Int.reduceLE, Bool.not_true, Bool.not_false, reduceIte, Int.reduceEq, Int.reduceBEq, Int.reduceBNe, Int.reduceGT, Int.reduceGE, Int.reduceNeg, Int.reduceAdd, Int.reduceSub, Nat.reduceBEq, decide_true, decide_false, undef, beq_self_eq_true, bne_self_eq_false, Bool.and_true, Bool.true_and, Bool.and_false, Bool.false_and, Bool.or_true, Bool.true_or, Bool.or_false, Bool.false_or, List.length_map, List.getElem?_map, hg, hb, h2, hw]
        refine ⟨_, Sub.gc [] [7, 6, 5, 2] rfl rfl, ?_⟩
        rw [hsn, if_pos (.inr (by simpa using h2))]
        rfl
    · have hb' : k = 0 := by
        rw [beq_iff_eq] at hb
        omega
      simp only [go_sem, Nat.reduceEqDiff, Nat.reduceAdd, Nat.reduceSub, Nat.reduceMul, Nat.reduceLT, Nat.reduceLeDiff, Nat.reduceMod, Nat.reduceDiv, Int.reduceToNat, Int.reduceLT, Int.reduceLE, Bool.not_true, Bool.not_false, reduceIte, Int.reduceEq, Int.reduceBEq, Int.reduceBNe, Int.reduceGT, Int.reduceGE, Int.reduceNeg, Int.reduceAdd, Int.reduceSub, Nat.reduceBEq, decide_true, decide_false, undef, beq_self_eq_true, bne_self_eq_false, Bool.and_true, Bool.true_and, Bool.and_false, Bool.false_and, Bool.or_true, Bool.true_or, Bool.or_false, Bool.false_or, List.length_map, List.getElem?_map, hg, hb, hw]
      refine ⟨_, Sub.gc [] [7, 6, 5, 2] rfl rfl, ?_⟩
      rw [hsn, if_pos (.inl hb')]
      rfl
  · rintro s rfl
    simp only [go_sem, Nat.reduceEqDiff, Nat.reduceAdd, Nat.reduceSub, Nat.reduceMul, Nat.reduceLT, Nat.reduceLeDiff, Nat.reduceMod, Nat.reduceDiv, Int.reduceToNat, Int.reduceLT, Int.reduceLE, Bool.not_true, Bool.not_false, reduceIte, Int.reduceEq, Int.reduceBEq, Int.reduceBNe, Int.reduceGT, Int.reduceGE, Int.reduceNeg, Int.reduceAdd, Int.reduceSub, Nat.reduceBEq, decide_true, decide_false, undef, beq_self_eq_true, bne_self_eq_false, Bool.and_true, Bool.true_and, Bool.and_false, Bool.false_and, Bool.or_true, Bool.true_or, Bool.or_false, Bool.false_or]
    exact finL_ret [] ⟨rfl, rfl, rfl, rfl, _, rfl, res_mk (by rw [List.take_length]; rfl)⟩

theorem joinS_ok (a b c d : Int) : ACall Tryd.prog 74 [.t (.agg [vi a, vi b]), .t (.agg [vi c, vi d])] [] (ret (.agg [vi (min a c), vi (max b d)])) := by
  refine ACall.walk k74 ?_
  unfold c74
  have h61 := highest_ok [b, d] (by simp)
  have e : hiG [b, d] = max b d := rfl
  rw [e] at h61
  simp only [go_sem, Nat.reduceEqDiff, Nat.reduceAdd, Nat.reduceSub, Nat.reduceMul, Nat.reduceLT, Nat.reduceLeDiff, Nat.reduceMod, Nat.reduceDiv, Int.reduceToNat, Int.reduceLT, Int.reduceLE, Bool.not_true, Bool.not_false, reduceIte, Int.reduceEq, Int.reduceBEq, Int.reduceBNe, Int.reduceGT, Int.reduceGE, Int.reduceNeg, Int.reduceAdd, Int.reduceSub, Nat.reduceBEq, decide_true, decide_false, undef, beq_self_eq_true, bne_self_eq_false, Bool.and_true, Bool.true_and, Bool.and_false, Bool.false_and, Bool.or_true, Bool.true_or, Bool.or_false, Bool.false_or]
  repeat' (first | refine AndL.mk ?_ ?_ | simp only [go_sem, Nat.reduceEqDiff, Nat.reduceAdd, Nat.reduceSub, Nat.reduceMul, Nat.reduceLT, Nat.reduceLeDiff, Nat.reduceMod, Nat.reduceDiv, Int.reduceToNat, Int.reduceLT, Int.reduceLE, Bool.not_true, Bool.not_false, reduceIte, Int.reduceEq, Int.reduceBEq, Int.reduceBNe, Int.reduceGT, Int.reduceGE, Int.reduceNeg, Int.reduceAdd, Int.reduceSub, Nat.reduceBEq, decide_true, decide_false, undef, beq_self_eq_true, bne_self_eq_false, Bool.and_true, Bool.true_and, Bool.and_false, Bool.false_and, Bool.or_true, Bool.true_or, Bool.or_false, Bool.false_or])
  all_goals refine ACallL.quiet1 h61 rfl rfl rfl ?_
  all_goals simp only [go_sem, Nat.reduceEqDiff, Nat.reduceAdd, Nat.reduceSub, Nat.reduceMul, Nat.reduceLT, Nat.reduceLeDiff, Nat.reduceMod, Nat.reduceDiv, Int.reduceToNat, Int.reduceLT, Int.reduceLE, Bool.not_true, Bool.not_false, reduceIte, Int.reduceEq, Int.reduceBEq, Int.reduceBNe, Int.reduceGT, Int.reduceGE, Int.reduceNeg, Int.reduceAdd, Int.reduceSub, Nat.reduceBEq, decide_true, decide_false, undef, beq_self_eq_true, bne_self_eq_false, Bool.and_true, Bool.true_and, Bool.and_false, Bool.false_and, Bool.or_true, Bool.true_or, Bool.or_false, Bool.false_or]
  all_goals exact finL_ret [] ⟨rfl, rfl, rfl, rfl, _, rfl, res_mk rfl⟩
end Go.Proofs.YtkbjodmpmmnhgaaDoor
